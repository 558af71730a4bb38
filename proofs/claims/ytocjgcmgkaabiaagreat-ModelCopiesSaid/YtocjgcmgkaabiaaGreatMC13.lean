/-
  For every input the law ModelCopies returns true, and each argument reads behind the call as it read before. This text holds lemmas for it (part 13).
  Conditions: none.
-/
import Derived.Test.YtocjgcmgkaabiaaGreatMC2
import Derived.Test.YtocjgcmgkaabiaaGreatMC12
set_option linter.all false
namespace Go.Proofs.YtocjgcmgkaabiaaGreat
open Go Go.Pw Go.Pw.Sc Go.Pw.Md
set_option maxRecDepth 100000
set_option maxHeartbeats 4000000
set_option synthInstance.maxHeartbeats 400000
set_option synthInstance.maxSize 2000
attribute [local irreducible] CW OW RW thenK blockK
attribute [local irreducible] scopeK loopK TRW ATW


theorem take_eq_step {α : Type} {a b : List α} {i : Nat} (h : a.take i = b.take i) (ha : i < a.length) (hb : i < b.length) (he : a[i] = b[i]) : a.take (i + 1) = b.take (i + 1) := by rw [take_step ha, take_step hb, h, he]
theorem getElem_of_eq {α : Type} {a b : List α} {i : Nat} (h : a = b) (ha : i < a.length) (hb : i < b.length) : a[i] = b[i] := by subst h; rfl
theorem rSame (a b : Mod) (va vb : Value) (L : Chunk) (ha : RL L va a.L) (hb : RL L vb b.L) (hba : ∀ p ∈ a.L, p.b.length ≤ 16777216) (hbb : ∀ p ∈ b.L, p.b.length ≤ 16777216) : Fn1 Tryz.prog 10 [mV a va, mV b vb] L (fun u L' => u = .bool (decide (a = b)) ∧ L = L') := by
  have hn := ha.len
  have hn' := hb.len
  obtain ⟨aa, ca, rfl⟩ := ha.slice
  obtain ⟨ab, cb, rfl⟩ := hb.slice
  have no : ¬ a = b → decide (a = b) = false := fun h => decide_eq_false h
  intro w0; refine Spec.enter2 Tryz.func10 rfl Tryz.ntmps10 (by decide) ?_
  by_cases c1 : a.slot = b.slot
  · by_cases c2 : a.quota = b.quota
    · by_cases c3 : a.L.length = b.L.length
      · have c3' : (a.L.length : Int) = b.L.length := by omega
        have yes : a.L.take a.L.length = b.L.take a.L.length → a = b := fun h => by
          rw [List.take_length, c3, List.take_length] at h
          obtain ⟨s, q, l⟩ := a
          obtain ⟨s', q', l'⟩ := b
          simp only at c1 c2 h
          subst c1 c2 h
          rfl
        repeat' (first|refine Gi0 fun _=>?_|refine Gi1 ?_|refine CW.drawsTreeA (id := 6) (.fork [0, 1, 2, 3, 4, 5, 6, 7, 8, 9] 10 11 (.leaf [11, 12, 13]) (.leaf [10, 12, 13])) mixed (by kernel_rfl) ?_|refine CW.drawsP (id := 12) [0,1,2,3,4,5,6,7,8,9,10] mixed (by kernel_rfl) ?_|refine TRW.fork ?_|refine TRW.leaf ?_|refine TRW.both ?_ ?_|refine Gi2 (fun _=>?_) fun _=>?_|refine Gi3 ?_|refine Gi4 fun _=>?_|fail)
        rename_i b2 b3
        refine CW.count a.L.length (fun i ρ ds L' => ds = [] ∧ (∃ X, L' = X ++ ((b3, .cells #[.int .i64 b.slot, .int .i64 b.quota, .slice ab b.L.length cb] 44 (0, 0)) :: (b2, .cells #[.int .i64 a.slot, .int .i64 a.quota, .slice aa a.L.length ca] 44 (0, 0)) :: L)) ∧ a.L.take i = b.L.take i ∧
          Ev ρ 2 (.pointer (some ⟨b2, 0, none⟩)) ∧ Ev ρ 3 (.pointer (some ⟨b3, 0, none⟩)) ∧ Ev ρ 5 (.int .i64 (i : Int))) ⟨rfl, ⟨[], rfl⟩, by simp, inferInstance, inferInstance, inferInstance⟩ ?_
        rintro i ρ ds L' hi ⟨rfl, ⟨X, rfl⟩, hg, e2, e3, e5⟩
        by_cases hlt : i < a.L.length
        · have hlt' : i < b.L.length := by omega
          obtain ⟨bk, kk, capk, lk, ek, frk, hbe, hbin, hbc, hbn⟩ := ha.open (by omega)
          obtain ⟨bj, kj, capj, lj, ej, frj, hbe', hbin', hbc', hbn'⟩ := hb.open (by omega)
          cases hbe
          cases hbe'
          obtain ⟨cc, hcut, vp, rfl, hrp⟩ := hbn i hlt
          obtain ⟨cc', hcut', vq, rfl, hrq⟩ := hbn' i hlt'
          have sp := hrp.sng
          have sq := hrq.sng
          have bad : a.L[i] ≠ b.L[i] → decide (a = b) = false := fun h => no fun e => h (by subst e; rfl)
          have nxt := take_eq_step hg hlt hlt'
          have lp := hba _ (List.getElem_mem hlt)
          have lq := hbb _ (List.getElem_mem hlt')
          clear no yes
          generalize a.L[i] = p at *
          generalize b.L[i] = q at *
          obtain ⟨ap, kp, hpe, _⟩ := hrp.isSlice
          obtain ⟨aq, kq, hqe, _⟩ := hrq.isSlice
          subst hpe hqe
          by_cases d : p.ad = q.ad ∧ p.size = q.size ∧ p.room = q.room ∧ p.b.length = q.b.length
          · obtain ⟨d1, d2, d3, d4⟩ := d
            have d4' : (p.b.length : Int) = q.b.length := by omega
            repeat' (first|refine Gi0 fun _=>?_|refine Gi1 ?_|refine CW.drawsTreeA (id := 6) (.fork [0, 1, 2, 3, 4, 5, 6, 7, 8, 9] 10 11 (.leaf [11, 12, 13]) (.leaf [10, 12, 13])) mixed (by kernel_rfl) ?_|refine CW.drawsP (id := 12) [0,1,2,3,4,5,6,7,8,9,10] mixed (by kernel_rfl) ?_|refine TRW.fork ?_|refine TRW.leaf ?_|refine TRW.both ?_ ?_|refine Gi2 (fun _=>?_) fun _=>?_|refine Gi3 ?_|refine Gi4 fun _=>?_|fail)
            all_goals (
              rename_i y1 y2
              refine CW.count p.b.length (fun j ρ ds L' => ds = [] ∧ (∃ Y b6 b7, L' = Y ++ (X ++ ((b3, .cells #[.int .i64 b.slot, .int .i64 b.quota, .slice (some ⟨bj, kj, none⟩) b.L.length cb] 44 (0, 0)) :: (b2, .cells #[.int .i64 a.slot, .int .i64 a.quota, .slice (some ⟨bk, kk, none⟩) a.L.length ca] 44 (0, 0)) :: L)) ∧
                InC L' b6 (.cells #[.int .u32 p.ad, .int .i64 p.size, .int .i64 p.room, .slice ap p.b.length kp] 66 (0, 0)) ∧ InC L' b7 (.cells #[.int .u32 q.ad, .int .i64 q.size, .int .i64 q.room, .slice aq q.b.length kq] 66 (0, 0)) ∧ Ev ρ 6 (.pointer (some ⟨b6, 0, none⟩)) ∧ Ev ρ 7 (.pointer (some ⟨b7, 0, none⟩))) ∧ p.b.take j = q.b.take j ∧
                Ev ρ 2 (.pointer (some ⟨b2, 0, none⟩)) ∧ Ev ρ 3 (.pointer (some ⟨b3, 0, none⟩)) ∧ Ev ρ 5 (.int .i64 (i : Int)) ∧ Ev ρ 8 (.int .i64 (j : Int))) ?_ ?_
              · first
                  | exact ⟨rfl, ⟨[(y2, _), (y1, _)], y1, y2, rfl, inferInstance, inferInstance, inferInstance, inferInstance⟩, by simp, inferInstance, inferInstance, inferInstance, inferInstance⟩
                  | exact ⟨rfl, ⟨[(y2, _), (y1, _)], y2, y1, rfl, inferInstance, inferInstance, inferInstance, inferInstance⟩, by simp, inferInstance, inferInstance, inferInstance, inferInstance⟩
              clear e2 e3 e5
              rintro j ρ ds L' hj ⟨rfl, ⟨Y, b6, b7, rfl, i6, i7, e6, e7⟩, hgj, e2, e3, e5, e8⟩
              by_cases hjl : j < p.b.length
              · have hjl' : j < q.b.length := by omega
                obtain ⟨bP, kP, cP, lP, eP, fP, hP, hPin, hPc, hPn⟩ := hrp.open1 (by omega)
                obtain ⟨bQ, kQ, cQ, lQ, eQ, fQ, hQ, hQin, hQc, hQn⟩ := hrq.open1 (by omega)
                cases hP
                cases hQ
                have nP := hPn j _ hjl (iv_get hjl)
                have nQ := hQn j _ hjl' (iv_get hjl')
                have nx := take_eq_step hgj hjl hjl'
                have hbd : ¬ p.b[j] = q.b[j] → decide (a = b) = false := fun h => bad (by
                  intro e
                  subst e
                  exact h rfl)
                clear bad nxt
                generalize p.b[j] = x at *
                generalize q.b[j] = y at *
                by_cases hxy : x = y
                · have hh := nx hxy
                  clear nx hbd
                  repeat' (first|refine Gi0 fun _=>?_|refine Gi1 ?_|refine CW.drawsTreeA (id := 6) (.fork [0, 1, 2, 3, 4, 5, 6, 7, 8, 9] 10 11 (.leaf [11, 12, 13]) (.leaf [10, 12, 13])) mixed (by kernel_rfl) ?_|refine CW.drawsP (id := 12) [0,1,2,3,4,5,6,7,8,9,10] mixed (by kernel_rfl) ?_|refine TRW.fork ?_|refine TRW.leaf ?_|refine TRW.both ?_ ?_|refine Gi2 (fun _=>?_) fun _=>?_|refine Gi3 ?_|refine Gi4 fun _=>?_|fail)
                  exact ⟨hjl, rfl, ⟨Y, b6, b7, rfl, i6, i7, inferInstance, inferInstance⟩, hh, inferInstance, inferInstance, inferInstance, by rw [Int.natCast_add]; infer_instance⟩
                · rw [hbd hxy]
                  clear nx hbd
                  repeat' (first|refine Gi0 fun _=>?_|refine Gi1 ?_|refine CW.drawsTreeA (id := 6) (.fork [0, 1, 2, 3, 4, 5, 6, 7, 8, 9] 10 11 (.leaf [11, 12, 13]) (.leaf [10, 12, 13])) mixed (by kernel_rfl) ?_|refine CW.drawsP (id := 12) [0,1,2,3,4,5,6,7,8,9,10] mixed (by kernel_rfl) ?_|refine TRW.fork ?_|refine TRW.leaf ?_|refine TRW.both ?_ ?_|refine Gi2 (fun _=>?_) fun _=>?_|refine Gi3 ?_|refine Gi4 fun _=>?_|fail)
                  exact bodyK.retD L (Res.one Tryz.results10) ⟨rfl, rfl⟩
              · obtain rfl : j = p.b.length := by omega
                rw [List.take_length, d4, List.take_length] at hgj
                have hh := nxt (pc_eq d1 d2 d3 hgj)
                clear bad nxt
                repeat' (first|refine Gi0 fun _=>?_|refine Gi1 ?_|refine CW.drawsTreeA (id := 6) (.fork [0, 1, 2, 3, 4, 5, 6, 7, 8, 9] 10 11 (.leaf [11, 12, 13]) (.leaf [10, 12, 13])) mixed (by kernel_rfl) ?_|refine CW.drawsP (id := 12) [0,1,2,3,4,5,6,7,8,9,10] mixed (by kernel_rfl) ?_|refine TRW.fork ?_|refine TRW.leaf ?_|refine TRW.both ?_ ?_|refine Gi2 (fun _=>?_) fun _=>?_|refine Gi3 ?_|refine Gi4 fun _=>?_|fail)
                exact ⟨hlt, rfl, ⟨Y ++ X, by rw [List.append_assoc]⟩, hh, inferInstance, inferInstance, by rw [Int.natCast_add]; infer_instance⟩)
          · have hbd : decide (a = b) = false := bad fun e => d (by subst e; exact ⟨rfl, rfl, rfl, rfl⟩)
            rw [hbd]
            clear hbd bad nxt hg
            by_cases d1 : p.ad = q.ad
            · by_cases d2 : p.size = q.size
              · by_cases d3 : p.room = q.room
                · have d4 : ¬ (p.b.length : Int) = q.b.length := fun h => d ⟨d1, d2, d3, by omega⟩
                  clear d
                  repeat' (first|refine Gi0 fun _=>?_|refine Gi1 ?_|refine CW.drawsTreeA (id := 6) (.fork [0, 1, 2, 3, 4, 5, 6, 7, 8, 9] 10 11 (.leaf [11, 12, 13]) (.leaf [10, 12, 13])) mixed (by kernel_rfl) ?_|refine CW.drawsP (id := 12) [0,1,2,3,4,5,6,7,8,9,10] mixed (by kernel_rfl) ?_|refine TRW.fork ?_|refine TRW.leaf ?_|refine TRW.both ?_ ?_|refine Gi2 (fun _=>?_) fun _=>?_|refine Gi3 ?_|refine Gi4 fun _=>?_|fail)
                  all_goals exact bodyK.retD L (Res.one Tryz.results10) ⟨rfl, rfl⟩
                · clear d
                  repeat' (first|refine Gi0 fun _=>?_|refine Gi1 ?_|refine CW.drawsTreeA (id := 6) (.fork [0, 1, 2, 3, 4, 5, 6, 7, 8, 9] 10 11 (.leaf [11, 12, 13]) (.leaf [10, 12, 13])) mixed (by kernel_rfl) ?_|refine CW.drawsP (id := 12) [0,1,2,3,4,5,6,7,8,9,10] mixed (by kernel_rfl) ?_|refine TRW.fork ?_|refine TRW.leaf ?_|refine TRW.both ?_ ?_|refine Gi2 (fun _=>?_) fun _=>?_|refine Gi3 ?_|refine Gi4 fun _=>?_|fail)
                  all_goals exact bodyK.retD L (Res.one Tryz.results10) ⟨rfl, rfl⟩
              · clear d
                repeat' (first|refine Gi0 fun _=>?_|refine Gi1 ?_|refine CW.drawsTreeA (id := 6) (.fork [0, 1, 2, 3, 4, 5, 6, 7, 8, 9] 10 11 (.leaf [11, 12, 13]) (.leaf [10, 12, 13])) mixed (by kernel_rfl) ?_|refine CW.drawsP (id := 12) [0,1,2,3,4,5,6,7,8,9,10] mixed (by kernel_rfl) ?_|refine TRW.fork ?_|refine TRW.leaf ?_|refine TRW.both ?_ ?_|refine Gi2 (fun _=>?_) fun _=>?_|refine Gi3 ?_|refine Gi4 fun _=>?_|fail)
                all_goals exact bodyK.retD L (Res.one Tryz.results10) ⟨rfl, rfl⟩
            · clear d
              repeat' (first|refine Gi0 fun _=>?_|refine Gi1 ?_|refine CW.drawsTreeA (id := 6) (.fork [0, 1, 2, 3, 4, 5, 6, 7, 8, 9] 10 11 (.leaf [11, 12, 13]) (.leaf [10, 12, 13])) mixed (by kernel_rfl) ?_|refine CW.drawsP (id := 12) [0,1,2,3,4,5,6,7,8,9,10] mixed (by kernel_rfl) ?_|refine TRW.fork ?_|refine TRW.leaf ?_|refine TRW.both ?_ ?_|refine Gi2 (fun _=>?_) fun _=>?_|refine Gi3 ?_|refine Gi4 fun _=>?_|fail)
              all_goals exact bodyK.retD L (Res.one Tryz.results10) ⟨rfl, rfl⟩
        · obtain rfl : i = a.L.length := by omega
          rw [decide_eq_true (yes hg)]
          clear no yes hg
          repeat' (first|refine Gi0 fun _=>?_|refine Gi1 ?_|refine CW.drawsTreeA (id := 6) (.fork [0, 1, 2, 3, 4, 5, 6, 7, 8, 9] 10 11 (.leaf [11, 12, 13]) (.leaf [10, 12, 13])) mixed (by kernel_rfl) ?_|refine CW.drawsP (id := 12) [0,1,2,3,4,5,6,7,8,9,10] mixed (by kernel_rfl) ?_|refine TRW.fork ?_|refine TRW.leaf ?_|refine TRW.both ?_ ?_|refine Gi2 (fun _=>?_) fun _=>?_|refine Gi3 ?_|refine Gi4 fun _=>?_|fail)
          exact bodyK.retD L (Res.one Tryz.results10) ⟨rfl, rfl⟩
      · rw [no fun h => c3 (by rw [h])]
        have c3' : ¬ (a.L.length : Int) = b.L.length := by omega
        repeat' (first|refine Gi0 fun _=>?_|refine Gi1 ?_|refine CW.drawsTreeA (id := 6) (.fork [0, 1, 2, 3, 4, 5, 6, 7, 8, 9] 10 11 (.leaf [11, 12, 13]) (.leaf [10, 12, 13])) mixed (by kernel_rfl) ?_|refine CW.drawsP (id := 12) [0,1,2,3,4,5,6,7,8,9,10] mixed (by kernel_rfl) ?_|refine TRW.fork ?_|refine TRW.leaf ?_|refine TRW.both ?_ ?_|refine Gi2 (fun _=>?_) fun _=>?_|refine Gi3 ?_|refine Gi4 fun _=>?_|fail)
        exact bodyK.retD L (Res.one Tryz.results10) ⟨rfl, rfl⟩
    · rw [no fun h => c2 (by rw [h])]
      repeat' (first|refine Gi0 fun _=>?_|refine Gi1 ?_|refine CW.drawsTreeA (id := 6) (.fork [0, 1, 2, 3, 4, 5, 6, 7, 8, 9] 10 11 (.leaf [11, 12, 13]) (.leaf [10, 12, 13])) mixed (by kernel_rfl) ?_|refine CW.drawsP (id := 12) [0,1,2,3,4,5,6,7,8,9,10] mixed (by kernel_rfl) ?_|refine TRW.fork ?_|refine TRW.leaf ?_|refine TRW.both ?_ ?_|refine Gi2 (fun _=>?_) fun _=>?_|refine Gi3 ?_|refine Gi4 fun _=>?_|fail)
      exact bodyK.retD L (Res.one Tryz.results10) ⟨rfl, rfl⟩
  · rw [no fun h => c1 (by rw [h])]
    repeat' (first|refine Gi0 fun _=>?_|refine Gi1 ?_|refine CW.drawsTreeA (id := 6) (.fork [0, 1, 2, 3, 4, 5, 6, 7, 8, 9] 10 11 (.leaf [11, 12, 13]) (.leaf [10, 12, 13])) mixed (by kernel_rfl) ?_|refine CW.drawsP (id := 12) [0,1,2,3,4,5,6,7,8,9,10] mixed (by kernel_rfl) ?_|refine TRW.fork ?_|refine TRW.leaf ?_|refine TRW.both ?_ ?_|refine Gi2 (fun _=>?_) fun _=>?_|refine Gi3 ?_|refine Gi4 fun _=>?_|fail)
    exact bodyK.retD L (Res.one Tryz.results10) ⟨rfl, rfl⟩
end Go.Proofs.YtocjgcmgkaabiaaGreat
