/-
  For every input the law ModelCopies returns true, and each argument reads behind the call as it read before. This text holds lemmas for it (part 19).
  Conditions: none.
-/
import Derived.Test.YtocjgcmgkaabiaaGreatMC2
import Derived.Test.YtocjgcmgkaabiaaGreatMC3
import Derived.Test.YtocjgcmgkaabiaaGreatMC10
import Derived.Test.YtocjgcmgkaabiaaGreatMC11
import Derived.Test.YtocjgcmgkaabiaaGreatMC17
set_option linter.all false
namespace Go.Proofs.YtocjgcmgkaabiaaGreat
open Go Go.Pw Go.Pw.Sc Go.Pw.Md
set_option maxRecDepth 100000
set_option maxHeartbeats 4000000
set_option synthInstance.maxHeartbeats 400000
set_option synthInstance.maxSize 2000
attribute [local irreducible] CW OW RW thenK blockK
attribute [local irreducible] scopeK loopK TRW ATW


section
variable {P : Program} {ρ : Env} {L : Chunk} {ty : TypeId}
instance (priority := high) op1NeqAggT {t yt : TypeId} {x y : Operand} {a b : List Value} [hx : EvO ρ x (.agg a.toArray)] [hy : EvO ρ y (.agg b.toArray)] [h : EqA P t a b true] : Op1 P ρ L (.binOp .neq t x y yt) ty (.bool false) := op1NeqAgg (r := true)
end
theorem kAt2 : ∀ ps : List Pc, LAt 3 (fun c p => c = kn p) (kcells ps) ps
  | [] => rfl
  | p :: ps => ⟨kn p, kcells ps, by simp [kcells], rfl, rfl, kAt2 ps⟩
theorem byteAt_none {m : Mod} {a : Int} (h : m.inn a = none) : byteAt m a = (0, false, false) := by unfold byteAt; rw [h]
theorem byteAt_some {m : Mod} {a : Int} {p : Pc} (h : m.inn a = some p) {d : Nat} (hd : d < p.b.length) (he : (d : Int) = a - p.ad) : byteAt m a = if p.b[d] = -1 then (0, false, true) else (p.b[d], true, true) := by
  unfold byteAt
  rw [h]
  have : (a - p.ad).toNat = d := by omega
  simp only [this, List.getD_eq_getElem?_getD, List.getElem?_eq_getElem hd, Option.getD_some]
theorem isLaw (bm bp : Nat) (m : Mod) (hwf : WF m) (v : Value) (Dm L : Chunk) [hm : InC L bm (.cells (mcells m bp).toArray 56 (0, 0))] [hDm : MemC Dm L] (hr : MRest Dm bp m) (hl : RL L v m.L) :
    Fn1 Tryz.prog 11 [.pointer (some ⟨bm, 0, none⟩), mV m v] L (fun u L' => u = .bool true ∧ L = L') := by
  have hm' := hm
  have hlen := wf_len2 hwf
  have hl' := hl
  obtain ⟨av, cv, rfl⟩ := hl'.slice
  intro w0; refine Spec.enter2 Tryz.func11 rfl Tryz.ntmps11 (by decide) ?_
  repeat' (first|refine Gi0 fun _=>?_|refine Gi1 ?_|refine CW.drawsP (id := 9) [0,1,2,3,4,5,6,7,8,9,10,11] mixed (by kernel_rfl) ?_|refine Gi2 (fun _=>?_) fun _=>?_|refine Gi3 ?_|refine Gi4 fun _=>?_|fail)
  rename_i b3
  refine OW.call (modelPieces bm bp m hwf Dm _ hr) ?_
  rintro up _ ⟨N1, rfl, hrp⟩
  obtain ⟨ap, cp, hpe⟩ := hrp.slice
  subst hpe
  repeat' (first|refine Gi0 fun _=>?_|refine Gi1 ?_|refine CW.drawsP (id := 9) [0,1,2,3,4,5,6,7,8,9,10,11] mixed (by kernel_rfl) ?_|refine Gi2 (fun _=>?_) fun _=>?_|refine Gi3 ?_|refine Gi4 fun _=>?_|fail)
  refine OW.call (modelCharge bm bp m hwf Dm _ hr) ?_
  rintro _ _ ⟨rfl, rfl⟩
  repeat' (first|refine Gi0 fun _=>?_|refine Gi1 ?_|refine CW.drawsP (id := 9) [0,1,2,3,4,5,6,7,8,9,10,11] mixed (by kernel_rfl) ?_|refine Gi2 (fun _=>?_) fun _=>?_|refine Gi3 ?_|refine Gi4 fun _=>?_|fail)
  refine OW.call (rCharge m hwf _ _ (RL.to' hl)) ?_
  rintro _ _ ⟨rfl, rfl⟩
  generalize m.charge = ch
  repeat' (first|refine Gi0 fun _=>?_|refine Gi1 ?_|refine CW.drawsP (id := 9) [0,1,2,3,4,5,6,7,8,9,10,11] mixed (by kernel_rfl) ?_|refine Gi2 (fun _=>?_) fun _=>?_|refine Gi3 ?_|refine Gi4 fun _=>?_|fail)
  refine CW.count m.L.length (fun i ρ ds L' => ds = [] ∧ (∃ X, L' = X ++ (N1 ++ ((b3, .cells #[.int .i64 m.slot, .int .i64 m.quota, .slice av m.L.length cv] 44 (0, 0)) :: L))) ∧ Ev ρ 0 (.pointer (some ⟨bm, 0, none⟩)) ∧ Ev ρ 3 (.pointer (some ⟨b3, 0, none⟩)) ∧ Ev ρ 5 (.slice ap m.L.length cp) ∧ Ev ρ 8 (.int .i64 (i : Int)))
    ⟨rfl, ⟨[], rfl⟩, inferInstance, inferInstance, inferInstance, inferInstance⟩ ?_
  rintro i ρ ds L' hi ⟨rfl, ⟨X, rfl⟩, e0, e3, e5, e8⟩
  by_cases hlt : i < m.L.length
  · obtain ⟨bk, kk, capk, lk, ek, frk, hbe, hbin, hbc, hbn⟩ := hl.open (by omega)
    cases hbe
    obtain ⟨cc, hcut, vq, rfl, hrd⟩ := hbn i hlt
    have sq := hrd.sng
    obtain ⟨n0, n1, n2, n3⟩ := cut4 hcut
    obtain ⟨br, kr, capr, lr, er, frr, hre, hrin, hrc, hrn⟩ := hrp.rd.open (by omega)
    cases hre
    have hcutr := hrn i hlt
    have hg := (kAt2 m.L).get i hlt
    rw [hg] at hcutr
    have hpm := List.getElem_mem hlt
    have okp := hwf.ok _ hpm
    have o1 := okp.ad
    have o2 := okp.room
    have o3 := okp.fin
    have o4 := okp.len
    have hinn : ∀ q : Int, m.L[i].ad ≤ q → q < m.L[i].ad + m.L[i].room → m.inn q = some m.L[i] := fun q h1 h2 => inn_of hwf hpm ⟨h1, h2⟩
    have hby : ∀ d (hd : d < m.L[i].b.length), -1 ≤ m.L[i].b[d] ∧ m.L[i].b[d] ≤ 255 := fun d hd => okp.byt _ (List.getElem_mem hd)
    clear hg
    generalize m.L[i] = p at *
    have eA : EqA Tryz.prog 73 [.int .u32 p.ad, .int .i64 p.size, .int .i64 p.room] [.int .u32 p.ad, .int .i64 p.size, .int .i64 p.room] true := by
      have := eqKnown (a := p.ad) (b := p.size) (c := p.room) (d := p.ad) (e := p.size) (f := p.room)
      rw [decide_eq_true ⟨rfl, rfl, rfl⟩] at this
      exact this
    repeat' (first|refine Gi0 fun _=>?_|refine Gi1 ?_|refine CW.drawsP (id := 9) [0,1,2,3,4,5,6,7,8,9,10,11] mixed (by kernel_rfl) ?_|refine Gi2 (fun _=>?_) fun _=>?_|refine Gi3 ?_|refine Gi4 fun _=>?_|fail)
    rename_i b9
    refine CW.count (p.room + 2).toNat (fun j ρ ds L' => ds = [] ∧ L' = (b9, .cells #[.int .u32 p.ad, .int .i64 p.size, .int .i64 p.room, vq] 66 (0, 0)) :: (X ++ (N1 ++ ((b3, .cells #[.int .i64 m.slot, .int .i64 m.quota, .slice (some ⟨bk, kk, none⟩) m.L.length cv] 44 (0, 0)) :: L))) ∧ Ev ρ 0 (.pointer (some ⟨bm, 0, none⟩)) ∧ Ev ρ 3 (.pointer (some ⟨b3, 0, none⟩)) ∧ Ev ρ 5 (.slice (some ⟨br, kr, none⟩) m.L.length cp) ∧ Ev ρ 8 (.int .i64 (i : Int)) ∧ Ev ρ 9 (.pointer (some ⟨b9, 0, none⟩)) ∧ Ev ρ 10 (.int .i64 ((j : Int) - 1)))
      ⟨rfl, rfl, inferInstance, inferInstance, inferInstance, inferInstance, inferInstance, (show Ev _ 10 (.int .i64 (-1)) from inferInstance)⟩ ?_
    clear e0 e3 e5 e8
    rintro j ρ ds L' hj ⟨rfl, rfl, e0, e3, e5, e8, e9, e10⟩
    by_cases hjl : (j : Int) - 1 ≤ p.room
    · have hjn : (j : Int) - 1 + 1 = ((j + 1 : Nat) : Int) - 1 := by omega
      have hjb : j < (p.room + 2).toNat := by omega
      have hk0 : -1 ≤ (j : Int) - 1 := by omega
      by_cases hneg : p.ad + ((j : Int) - 1) = -1
      · have hw : IntKind.wrap .u32 (p.ad + ((j : Int) - 1)) = 4294967295 := by rw [hneg]; decide
        have hk1 : (j : Int) - 1 < 0 := by omega
        have hn1 : m.inn 4294967295 = none := List.find?_eq_none.2 fun q hq => by
          have := (hwf.ok q hq).fin
          simp; omega
        have hb1 := byteAt_none hn1
        generalize hkk : (j : Int) - 1 = kv at *
        repeat' (first|refine Gi0 fun _=>?_|refine Gi1 ?_|refine CW.drawsP (id := 9) [0,1,2,3,4,5,6,7,8,9,10,11] mixed (by kernel_rfl) ?_|refine Gi2 (fun _=>?_) fun _=>?_|refine Gi3 ?_|refine Gi4 fun _=>?_|fail)
        rw [hw]
        refine OW.call (modelByte bm bp m hwf 4294967295 (by decide) Dm _ hr) ?_
        rintro _ _ ⟨rfl, rfl⟩
        rw [hb1]
        repeat' (first|refine Gi0 fun _=>?_|refine Gi1 ?_|refine CW.drawsP (id := 9) [0,1,2,3,4,5,6,7,8,9,10,11] mixed (by kernel_rfl) ?_|refine Gi2 (fun _=>?_) fun _=>?_|refine Gi3 ?_|refine Gi4 fun _=>?_|fail)
        refine OW.call (rIn m _ (p.ad + kv) (by omega) _ (RL.to' hl) hwf.ok) ?_
        rintro _ _ ⟨⟨jj, rfl, hjj⟩, rfl⟩
        have hjj1 : jj = -1 := by
          rcases hjj with ⟨h, _⟩ | ⟨a, ha, _, h1, _⟩
          · exact h
          · have := (hwf.ok _ (List.getElem_mem ha)).ad
            omega
        subst hjj1
        repeat' (first|refine Gi0 fun _=>?_|refine Gi1 ?_|refine CW.drawsP (id := 9) [0,1,2,3,4,5,6,7,8,9,10,11] mixed (by kernel_rfl) ?_|refine Gi2 (fun _=>?_) fun _=>?_|refine Gi3 ?_|refine Gi4 fun _=>?_|fail)
        exact ⟨hjb, rfl, rfl, inferInstance, inferInstance, inferInstance, inferInstance, inferInstance, by rw [← hjn]; infer_instance⟩
      · have hq0 : 0 ≤ p.ad + ((j : Int) - 1) := by omega
        have hq1 : p.ad + ((j : Int) - 1) ≤ 16777216 := by omega
        generalize hkk : (j : Int) - 1 = kv at *
        generalize hqq : p.ad + kv = q at *
        repeat' (first|refine Gi0 fun _=>?_|refine Gi1 ?_|refine CW.drawsP (id := 9) [0,1,2,3,4,5,6,7,8,9,10,11] mixed (by kernel_rfl) ?_|refine Gi2 (fun _=>?_) fun _=>?_|refine Gi3 ?_|refine Gi4 fun _=>?_|fail)
        rw [hqq]
        refine OW.call (modelByte bm bp m hwf q (by omega) Dm _ hr) ?_
        rintro _ _ ⟨rfl, rfl⟩
        by_cases hin : 0 ≤ kv ∧ kv < p.room
        · obtain ⟨hi1, hi2⟩ := hin
          obtain ⟨d, hd⟩ : ∃ d : Nat, (d : Int) = kv := ⟨_, Int.toNat_of_nonneg hi1⟩
          have t1 : ToN kv d := ⟨by omega⟩
          have hdb : d < p.b.length := by omega
          have hiq := hinn q (by omega) (by omega)
          have hbt := byteAt_some hiq hdb (by omega)
          obtain ⟨z1, z2⟩ := hby d hdb
          obtain ⟨bq, kq, cq, lq, eq, fq, hqe, hqin, hqc, hqn⟩ := hrd.open1 (by omega)
          cases hqe
          have nq := hqn d _ hdb (iv_get hdb)
          generalize p.b[d] = zb at *
          have hjr : ∀ jj : Int, PlR (fun p => p.ad ≤ q ∧ q < p.ad + p.room) m.L jj → 0 ≤ jj := fun jj h => by
            rcases inn_pl hwf h with ⟨_, h⟩ | ⟨a, _, h, _⟩
            · rw [hiq] at h; cases h
            · omega
          by_cases hz : zb = -1
          · rw [if_pos hz] at hbt
            rw [hbt]
            repeat' (first|refine Gi0 fun _=>?_|refine Gi1 ?_|refine CW.drawsP (id := 9) [0,1,2,3,4,5,6,7,8,9,10,11] mixed (by kernel_rfl) ?_|refine Gi2 (fun _=>?_) fun _=>?_|refine Gi3 ?_|refine Gi4 fun _=>?_|fail)
            rw [hqq]
            refine OW.call (rIn m _ q (by omega) _ (RL.to' hl) hwf.ok) ?_
            rintro _ _ ⟨⟨jj, rfl, hjj⟩, rfl⟩
            have hj0 := hjr jj hjj
            repeat' (first|refine Gi0 fun _=>?_|refine Gi1 ?_|refine CW.drawsP (id := 9) [0,1,2,3,4,5,6,7,8,9,10,11] mixed (by kernel_rfl) ?_|refine Gi2 (fun _=>?_) fun _=>?_|refine Gi3 ?_|refine Gi4 fun _=>?_|fail)
            exact ⟨hjb, rfl, rfl, inferInstance, inferInstance, inferInstance, inferInstance, inferInstance, by rw [← hjn]; infer_instance⟩
          · rw [if_neg hz] at hbt
            rw [hbt]
            repeat' (first|refine Gi0 fun _=>?_|refine Gi1 ?_|refine CW.drawsP (id := 9) [0,1,2,3,4,5,6,7,8,9,10,11] mixed (by kernel_rfl) ?_|refine Gi2 (fun _=>?_) fun _=>?_|refine Gi3 ?_|refine Gi4 fun _=>?_|fail)
            rw [hqq]
            refine OW.call (rIn m _ q (by omega) _ (RL.to' hl) hwf.ok) ?_
            rintro _ _ ⟨⟨jj, rfl, hjj⟩, rfl⟩
            have hj0 := hjr jj hjj
            repeat' (first|refine Gi0 fun _=>?_|refine Gi1 ?_|refine CW.drawsP (id := 9) [0,1,2,3,4,5,6,7,8,9,10,11] mixed (by kernel_rfl) ?_|refine Gi2 (fun _=>?_) fun _=>?_|refine Gi3 ?_|refine Gi4 fun _=>?_|fail)
            exact ⟨hjb, rfl, rfl, inferInstance, inferInstance, inferInstance, inferInstance, inferInstance, by rw [← hjn]; infer_instance⟩
        · cases hi9 : m.inn q with
          | none =>
            rw [byteAt_none hi9]
            repeat' (first|refine Gi0 fun _=>?_|refine Gi1 ?_|refine CW.drawsP (id := 9) [0,1,2,3,4,5,6,7,8,9,10,11] mixed (by kernel_rfl) ?_|refine Gi2 (fun _=>?_) fun _=>?_|refine Gi3 ?_|refine Gi4 fun _=>?_|fail)
            rw [hqq]
            refine OW.call (rIn m _ q (by omega) _ (RL.to' hl) hwf.ok) ?_
            rintro _ _ ⟨⟨jj, rfl, hjj⟩, rfl⟩
            have hj0 : jj = -1 := by
              rcases inn_pl hwf hjj with ⟨h, _⟩ | ⟨a, _, _, h, _⟩
              · exact h
              · rw [hi9] at h; cases h
            subst hj0
            by_cases hkn : kv < 0
            all_goals repeat' (first|refine Gi0 fun _=>?_|refine Gi1 ?_|refine CW.drawsP (id := 9) [0,1,2,3,4,5,6,7,8,9,10,11] mixed (by kernel_rfl) ?_|refine Gi2 (fun _=>?_) fun _=>?_|refine Gi3 ?_|refine Gi4 fun _=>?_|fail)
            all_goals exact ⟨hjb, rfl, rfl, inferInstance, inferInstance, inferInstance, inferInstance, inferInstance, by rw [← hjn]; infer_instance⟩
          | some p2 =>
            have hb3 : (byteAt m q).2.2 = true := by
              unfold byteAt
              rw [hi9]
              simp only
              split <;> rfl
            generalize byteAt m q = r at *
            obtain ⟨r1, r2, r3⟩ := r
            simp only at hb3
            subst hb3
            repeat' (first|refine Gi0 fun _=>?_|refine Gi1 ?_|refine CW.drawsP (id := 9) [0,1,2,3,4,5,6,7,8,9,10,11] mixed (by kernel_rfl) ?_|refine Gi2 (fun _=>?_) fun _=>?_|refine Gi3 ?_|refine Gi4 fun _=>?_|fail)
            rw [hqq]
            refine OW.call (rIn m _ q (by omega) _ (RL.to' hl) hwf.ok) ?_
            rintro _ _ ⟨⟨jj, rfl, hjj⟩, rfl⟩
            have hj0 : 0 ≤ jj := by
              rcases inn_pl hwf hjj with ⟨_, h⟩ | ⟨a, _, h, _⟩
              · rw [hi9] at h; cases h
              · omega
            by_cases hkn : kv < 0
            all_goals repeat' (first|refine Gi0 fun _=>?_|refine Gi1 ?_|refine CW.drawsP (id := 9) [0,1,2,3,4,5,6,7,8,9,10,11] mixed (by kernel_rfl) ?_|refine Gi2 (fun _=>?_) fun _=>?_|refine Gi3 ?_|refine Gi4 fun _=>?_|fail)
            all_goals exact ⟨hjb, rfl, rfl, inferInstance, inferInstance, inferInstance, inferInstance, inferInstance, by rw [← hjn]; infer_instance⟩
    · repeat' (first|refine Gi0 fun _=>?_|refine Gi1 ?_|refine CW.drawsP (id := 9) [0,1,2,3,4,5,6,7,8,9,10,11] mixed (by kernel_rfl) ?_|refine Gi2 (fun _=>?_) fun _=>?_|refine Gi3 ?_|refine Gi4 fun _=>?_|fail)
      exact ⟨hlt, rfl, ⟨_ :: X, rfl⟩, inferInstance, inferInstance, inferInstance, by rw [Int.natCast_add]; infer_instance⟩
  · obtain rfl : i = m.L.length := by omega
    repeat' (first|refine Gi0 fun _=>?_|refine Gi1 ?_|refine CW.drawsP (id := 9) [0,1,2,3,4,5,6,7,8,9,10,11] mixed (by kernel_rfl) ?_|refine Gi2 (fun _=>?_) fun _=>?_|refine Gi3 ?_|refine Gi4 fun _=>?_|fail)
    exact bodyK.retD L (Res.one Tryz.results11) ⟨rfl, rfl⟩
end Go.Proofs.YtocjgcmgkaabiaaGreat
