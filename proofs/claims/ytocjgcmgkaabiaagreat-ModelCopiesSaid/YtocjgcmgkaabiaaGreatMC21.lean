/-
  For every input the law ModelCopies returns true, and each argument reads behind the call as it read before. This text holds lemmas for it (part 21).
  Conditions: none.
-/
import Derived.Test.YtocjgcmgkaabiaaGreatMC2
import Derived.Test.YtocjgcmgkaabiaaGreatMC3
import Derived.Test.YtocjgcmgkaabiaaGreatMC13
import Derived.Test.YtocjgcmgkaabiaaGreatMC20
set_option linter.all false
namespace Go.Proofs.YtocjgcmgkaabiaaGreat
open Go Go.Pw Go.Pw.Sc Go.Pw.Md
set_option maxRecDepth 100000
set_option maxHeartbeats 4000000
set_option synthInstance.maxHeartbeats 400000
set_option synthInstance.maxSize 2000
attribute [local irreducible] CW OW RW thenK blockK
attribute [local irreducible] scopeK loopK TRW ATW


theorem actAt {C : Chunk → Chunk} (bm bp : Nat) (m : Mod) (hwf : WF m) (v : Value) (x : ActM) (vx vb : Value) (D L : Chunk) [hat : At L [(bm, .cells (mcells m bp).toArray 56 (0, 0))] C] (hD : ∀ q ∈ D, q ∈ C []) (hr : MRest D bp m) (hl : RL D v m.L) (hvx0 : BS (C []) vx x.op.bytes) (hvb0 : BS (C []) vb x.out.bytes) (hor : OpR0 x.op) (hou : OutR0 x.out) :
    Fn1 Tryz.prog 8 [.pointer (some ⟨bm, 0, none⟩), mV m v, .agg #[.int .i64 x.op.kind, .int .u32 x.op.ad, .int .u64 x.op.size, .int .u64 x.op.mult, .int .u64 x.op.many, vx, .int .i64 x.out.errno, .int .u32 x.out.ad, .int .i64 x.out.n, vb, .bool x.ask]] L
      (fun u L' => ∃ N b2 v', u = .tuple #[mV (actM m x) v', .bool true] ∧ L' = N ++ C [(bm, .cells (mcells (actM m x) b2).toArray 56 (0, 0))] ∧ MRest (N ++ D) b2 (actM m x) ∧ RL (N ++ D) v' (actM m x).L) := by
  obtain ⟨A, B, rfl, hC⟩ := hat.out
  obtain rfl : C = fun X => A ++ X ++ B := funext hC
  simp only [List.append_nil] at hD hvx0 hvb0
  exact actLaw bm bp m hwf v x vx vb D A B hD hr hl hvx0 hvb0 hor hou
theorem actM_wf {m : Mod} (h : WF m) {x : ActM} (hou : OutR0 x.out) (h1 : ∀ z ∈ x.op.bytes, 0 ≤ z ∧ z ≤ 255) (h2 : ∀ z ∈ x.out.bytes, 0 ≤ z ∧ z ≤ 255) : WF (actM m x) := by
  unfold actM
  split
  · exact h
  · exact after_wf h hou.ad.1 h1 h2
theorem actM_keeps (m : Mod) (x : ActM) : Keeps m (actM m x) := by
  unfold actM
  split
  · exact .rfl m
  · exact after_keeps ..
theorem bs_byt {L : Chunk} {v : Value} {xs : List Int} (h : BS L v xs) : ∀ z ∈ xs, 0 ≤ z ∧ z ≤ 255 := fun z hz => by have := h.byt z hz; omega
theorem acts_sng {L : Chunk} : ∀ {xs : List Value} {as_ : List ActM}, LAt 11 (ActAt L) xs as_ → ∀ v ∈ xs, Sng v
  | xs, [], h => fun v hv => by have : xs = [] := h; subst this; cases hv
  | _, p :: ps, ⟨c, r, e, h0, ⟨vx, vb, h1, hx, hb, _, _⟩, h2⟩ => fun v hv => by
    subst e h1
    have := hx.sng
    have := hb.sng
    rcases List.mem_append.1 hv with hv | hv
    · simp only [opC, outC, List.cons_append, List.nil_append, List.mem_cons, List.not_mem_nil, or_false] at hv
      rcases hv with rfl | rfl | rfl | rfl | rfl | rfl | rfl | rfl | rfl | rfl | rfl <;> infer_instance
    · exact acts_sng h2 v hv
theorem modelCopies (a0 a1 : Int) (v : Value) (acts : List ActM) (x y : ActM) (vx wx vy wy : Value) (L : Chunk) (hv : AS L v acts) (hvx : BS L vx x.op.bytes) (hwx : BS L wx x.out.bytes) (hvy : BS L vy y.op.bytes) (hwy : BS L wy y.out.bytes)
    (hox : OpR0 x.op) (hux : OutR0 x.out) (hoy : OpR0 y.op) (huy : OutR0 y.out) (hn : acts.length * 120 ≤ 140737488351232) :
    Fn1 Tryz.prog 3 [.agg #[.int .i64 a0, .int .i64 a1], v, .agg #[.int .i64 x.op.kind, .int .u32 x.op.ad, .int .u64 x.op.size, .int .u64 x.op.mult, .int .u64 x.op.many, vx, .int .i64 x.out.errno, .int .u32 x.out.ad, .int .i64 x.out.n, wx, .bool x.ask, .int .i64 y.op.kind, .int .u32 y.op.ad, .int .u64 y.op.size, .int .u64 y.op.mult, .int .u64 y.op.many, vy, .int .i64 y.out.errno, .int .u32 y.out.ad, .int .i64 y.out.n, wy, .bool y.ask]] L (fun u L' => u = .bool true ∧ L = L') := by
  have s1 := hvx.sng
  have s2 := hwx.sng
  have s3 := hvy.sng
  have s4 := hwy.sng
  obtain ⟨aa, ca, rfl⟩ := hv.slice
  intro w0; refine Spec.enter3 Tryz.func3 rfl Tryz.ntmps3 (by decide) ?_
  repeat' (first|refine Gi0 fun _=>?_|refine Gi1 ?_|refine CW.drawsTreeA (id := 2) (.fork [1, 3, 4, 5, 6] 0 7 (.fork [] 2 7 (.leaf [7, 8, 9, 10, 11, 12, 13, 14, 15]) (.leaf [2, 8, 9, 10, 11, 12, 13, 14, 15])) (.leaf [0, 2, 8, 9, 10, 11, 12, 13, 14, 15])) mixed (by kernel_rfl) ?_|refine CW.drawsSw (id := 8) [] [0, 1, 2, 3, 4, 5, 6, 7, 8, 9] 10 [] mixed (by kernel_rfl) ?_|refine TRW.fork ?_|refine TRW.leaf ?_|refine TRW.both ?_ ?_|refine Gi2 (fun _=>?_) fun _=>?_|refine Gi3 ?_|refine Gi4 fun _=>?_|fail)
  rename_i b3 b5
  refine OW.cutK (fun ρ ds L' => ds = [] ∧ (∃ e, Ev ρ 8 (.int .i64 e) ∧ (e = 0 → (0 ≤ a0 ∧ a0 < 4 ∧ 0 ≤ a1 ∧ a1 ≤ 1073741824) ∧ ∃ bn bp, L' = (bn, .cells (mcells ⟨a0, a1, []⟩ bp).toArray 56 (0, 0)) :: (bp, .map #[] 0) :: (b5, .cells #[.int .i64 x.op.kind, .int .u32 x.op.ad, .int .u64 x.op.size, .int .u64 x.op.mult, .int .u64 x.op.many, vx, .int .i64 x.out.errno, .int .u32 x.out.ad, .int .i64 x.out.n, wx, .bool x.ask, .int .i64 y.op.kind, .int .u32 y.op.ad, .int .u64 y.op.size, .int .u64 y.op.mult, .int .u64 y.op.many, vy, .int .i64 y.out.errno, .int .u32 y.out.ad, .int .i64 y.out.n, wy, .bool y.ask] 35 (0, 0)) :: (b3, .cells #[.int .i64 a0, .int .i64 a1] 22 (0, 0)) :: L ∧ Ev ρ 7 (.pointer (some ⟨bn, 0, none⟩)))) ∧ (∃ p7, Ev ρ 7 (.pointer p7)) ∧ MemC ((b5, .cells #[.int .i64 x.op.kind, .int .u32 x.op.ad, .int .u64 x.op.size, .int .u64 x.op.mult, .int .u64 x.op.many, vx, .int .i64 x.out.errno, .int .u32 x.out.ad, .int .i64 x.out.n, wx, .bool x.ask, .int .i64 y.op.kind, .int .u32 y.op.ad, .int .u64 y.op.size, .int .u64 y.op.mult, .int .u64 y.op.many, vy, .int .i64 y.out.errno, .int .u32 y.out.ad, .int .i64 y.out.n, wy, .bool y.ask] 35 (0, 0)) :: (b3, .cells #[.int .i64 a0, .int .i64 a1] 22 (0, 0)) :: L) L' ∧ SubC L L' ∧ Ev ρ 1 (.slice aa acts.length ca) ∧ Ev ρ 3 (.pointer (some ⟨b3, 0, none⟩)) ∧ Ev ρ 5 (.pointer (some ⟨b5, 0, none⟩))) ?_ ?_
  rotate_left
  · intro N hN
    refine OW.call (modelNew a0 a1 _) ?_
    intro u L' hu
    by_cases hg : 0 ≤ a0 ∧ a0 < 4 ∧ 0 ≤ a1 ∧ a1 ≤ 1073741824
    · rw [if_pos hg] at hu
      obtain ⟨bn, bp, rfl, rfl⟩ := hu
      repeat' (first|refine Gi0 fun _=>?_|refine Gi1 ?_|refine CW.drawsTreeA (id := 2) (.fork [1, 3, 4, 5, 6] 0 7 (.fork [] 2 7 (.leaf [7, 8, 9, 10, 11, 12, 13, 14, 15]) (.leaf [2, 8, 9, 10, 11, 12, 13, 14, 15])) (.leaf [0, 2, 8, 9, 10, 11, 12, 13, 14, 15])) mixed (by kernel_rfl) ?_|refine CW.drawsSw (id := 8) [] [0, 1, 2, 3, 4, 5, 6, 7, 8, 9] 10 [] mixed (by kernel_rfl) ?_|refine TRW.fork ?_|refine TRW.leaf ?_|refine TRW.both ?_ ?_|refine Gi2 (fun _=>?_) fun _=>?_|refine Gi3 ?_|refine Gi4 fun _=>?_|fail)
      exact hN _ _ _ ⟨rfl, ⟨0, inferInstance, fun _ => ⟨hg, bn, bp, rfl, inferInstance⟩⟩, ⟨_, inferInstance⟩, ⟨fun q hq => List.mem_cons_of_mem _ (List.mem_cons_of_mem _ hq)⟩, inferInstance, inferInstance, inferInstance, inferInstance⟩
    · rw [if_neg hg] at hu
      obtain ⟨rfl, rfl⟩ := hu
      repeat' (first|refine Gi0 fun _=>?_|refine Gi1 ?_|refine CW.drawsTreeA (id := 2) (.fork [1, 3, 4, 5, 6] 0 7 (.fork [] 2 7 (.leaf [7, 8, 9, 10, 11, 12, 13, 14, 15]) (.leaf [2, 8, 9, 10, 11, 12, 13, 14, 15])) (.leaf [0, 2, 8, 9, 10, 11, 12, 13, 14, 15])) mixed (by kernel_rfl) ?_|refine CW.drawsSw (id := 8) [] [0, 1, 2, 3, 4, 5, 6, 7, 8, 9] 10 [] mixed (by kernel_rfl) ?_|refine TRW.fork ?_|refine TRW.leaf ?_|refine TRW.both ?_ ?_|refine Gi2 (fun _=>?_) fun _=>?_|refine Gi3 ?_|refine Gi4 fun _=>?_|fail)
      exact hN _ _ _ ⟨rfl, ⟨2, inferInstance, fun h => (by cases h)⟩, ⟨_, inferInstance⟩, ⟨fun q hq => hq⟩, inferInstance, inferInstance, inferInstance, inferInstance⟩
  rintro ρ ds L1 ⟨rfl, ⟨e, e8, he⟩, ⟨p7, e7⟩, hmem, hsub, e1, e3, e5⟩
  have hmL : MemC L L1 := ⟨fun q hq => hmem.out q (List.mem_cons_of_mem _ (List.mem_cons_of_mem _ hq))⟩
  have h5 : InC L1 b5 (.cells #[.int .i64 x.op.kind, .int .u32 x.op.ad, .int .u64 x.op.size, .int .u64 x.op.mult, .int .u64 x.op.many, vx, .int .i64 x.out.errno, .int .u32 x.out.ad, .int .i64 x.out.n, wx, .bool x.ask, .int .i64 y.op.kind, .int .u32 y.op.ad, .int .u64 y.op.size, .int .u64 y.op.mult, .int .u64 y.op.many, vy, .int .i64 y.out.errno, .int .u32 y.out.ad, .int .i64 y.out.n, wy, .bool y.ask] 35 (0, 0)) := ⟨hmem.out _ (List.mem_cons_self ..)⟩
  have h3 : InC L1 b3 (.cells #[.int .i64 a0, .int .i64 a1] 22 (0, 0)) := ⟨hmem.out _ (List.mem_cons_of_mem _ (List.mem_cons_self ..))⟩
  have hp7 : e = 0 → ∃ bn bp, L1 = (bn, .cells (mcells ⟨a0, a1, []⟩ bp).toArray 56 (0, 0)) :: (bp, .map #[] 0) :: (b5, .cells #[.int .i64 x.op.kind, .int .u32 x.op.ad, .int .u64 x.op.size, .int .u64 x.op.mult, .int .u64 x.op.many, vx, .int .i64 x.out.errno, .int .u32 x.out.ad, .int .i64 x.out.n, wx, .bool x.ask, .int .i64 y.op.kind, .int .u32 y.op.ad, .int .u64 y.op.size, .int .u64 y.op.mult, .int .u64 y.op.many, vy, .int .i64 y.out.errno, .int .u32 y.out.ad, .int .i64 y.out.n, wy, .bool y.ask] 35 (0, 0)) :: (b3, .cells #[.int .i64 a0, .int .i64 a1] 22 (0, 0)) :: L ∧ p7 = some ⟨bn, 0, none⟩ := fun h => by
    obtain ⟨_, bn, bp, hL, h7⟩ := he h
    refine ⟨bn, bp, hL, ?_⟩
    have a := e7.out
    have b := h7.out
    rw [a] at b
    simpa using b
  have hv1 : AS L1 (.slice aa acts.length ca) acts := hv.to'
  have hc11 : CutL [Value.int .i64 x.op.kind, Value.int .u32 x.op.ad, Value.int .u64 x.op.size, Value.int .u64 x.op.mult, Value.int .u64 x.op.many, vx, Value.int .i64 x.out.errno, Value.int .u32 x.out.ad, Value.int .i64 x.out.n, wx, Value.bool x.ask, Value.int .i64 y.op.kind, Value.int .u32 y.op.ad, Value.int .u64 y.op.size, Value.int .u64 y.op.mult, Value.int .u64 y.op.many, vy, Value.int .i64 y.out.errno, Value.int .u32 y.out.ad, Value.int .i64 y.out.n, wy, Value.bool y.ask] (natOf 1 * 11) 11 [Value.int .i64 y.op.kind, Value.int .u32 y.op.ad, Value.int .u64 y.op.size, Value.int .u64 y.op.mult, Value.int .u64 y.op.many, vy, Value.int .i64 y.out.errno, Value.int .u32 y.out.ad, Value.int .i64 y.out.n, wy, Value.bool y.ask] := (show CutL [Value.int .i64 x.op.kind, Value.int .u32 x.op.ad, Value.int .u64 x.op.size, Value.int .u64 x.op.mult, Value.int .u64 x.op.many, vx, Value.int .i64 x.out.errno, Value.int .u32 x.out.ad, Value.int .i64 x.out.n, wx, Value.bool x.ask, Value.int .i64 y.op.kind, Value.int .u32 y.op.ad, Value.int .u64 y.op.size, Value.int .u64 y.op.mult, Value.int .u64 y.op.many, vy, Value.int .i64 y.out.errno, Value.int .u32 y.out.ad, Value.int .i64 y.out.n, wy, Value.bool y.ask] 11 11 [Value.int .i64 y.op.kind, Value.int .u32 y.op.ad, Value.int .u64 y.op.size, Value.int .u64 y.op.mult, Value.int .u64 y.op.many, vy, Value.int .i64 y.out.errno, Value.int .u32 y.out.ad, Value.int .i64 y.out.n, wy, Value.bool y.ask] from inferInstance)
  refine CW.seq ?_
  refine CW.seq ?_
  refine CW.cutK (fun ρ ds L' => ds = [] ∧ Sfx L' L1 ∧ (∃ bb, Ev ρ 40 (.bool bb) ∧ (bb = false → e = 0)) ∧ Ev ρ 7 (.pointer p7) ∧ Ev ρ 1 (.slice aa acts.length ca) ∧ Ev ρ 3 (.pointer (some ⟨b3, 0, none⟩)) ∧ Ev ρ 5 (.pointer (some ⟨b5, 0, none⟩))) ?_ ?_
  rotate_left
  · intro N hN
    obtain ⟨xs, hxs, hlat⟩ := hv1.rd
    have hlen := hv1.len
    have hxy : LAt 11 (ActAt L1) ([Value.int .i64 x.op.kind, Value.int .u32 x.op.ad, Value.int .u64 x.op.size, Value.int .u64 x.op.mult, Value.int .u64 x.op.many, vx, Value.int .i64 x.out.errno, Value.int .u32 x.out.ad, Value.int .i64 x.out.n, wx, Value.bool x.ask] ++ [Value.int .i64 y.op.kind, Value.int .u32 y.op.ad, Value.int .u64 y.op.size, Value.int .u64 y.op.mult, Value.int .u64 y.op.many, vy, Value.int .i64 y.out.errno, Value.int .u32 y.out.ad, Value.int .i64 y.out.n, wy, Value.bool y.ask]) ([x] ++ [y]) := LAt.append (LAt.one rfl ⟨vx, wx, rfl, hvx.to, hwx.to, hox, hux⟩) (LAt.one rfl ⟨vy, wy, rfl, hvy.to, hwy.to, hoy, huy⟩)
    repeat' (first|refine Gi0 fun _=>?_|refine Gi1 ?_|refine CW.drawsTreeA (id := 2) (.fork [1, 3, 4, 5, 6] 0 7 (.fork [] 2 7 (.leaf [7, 8, 9, 10, 11, 12, 13, 14, 15]) (.leaf [2, 8, 9, 10, 11, 12, 13, 14, 15])) (.leaf [0, 2, 8, 9, 10, 11, 12, 13, 14, 15])) mixed (by kernel_rfl) ?_|refine CW.drawsSw (id := 8) [] [0, 1, 2, 3, 4, 5, 6, 7, 8, 9] 10 [] mixed (by kernel_rfl) ?_|refine TRW.fork ?_|refine TRW.leaf ?_|refine TRW.both ?_ ?_|refine Gi2 (fun _=>?_) fun _=>?_|refine Gi3 ?_|refine Gi4 fun _=>?_|fail)
    all_goals (
      refine RW.appendE (RowE.empty ..) (At.nil _) hxs.to (acts_sng hlat) (by omega) (fun v1 N1 hr1 => pinOld ?_)
      have sv1 := hr1.sng
      repeat' (first|refine Gi0 fun _=>?_|refine Gi1 ?_|refine CW.drawsTreeA (id := 2) (.fork [1, 3, 4, 5, 6] 0 7 (.fork [] 2 7 (.leaf [7, 8, 9, 10, 11, 12, 13, 14, 15]) (.leaf [2, 8, 9, 10, 11, 12, 13, 14, 15])) (.leaf [0, 2, 8, 9, 10, 11, 12, 13, 14, 15])) mixed (by kernel_rfl) ?_|refine CW.drawsSw (id := 8) [] [0, 1, 2, 3, 4, 5, 6, 7, 8, 9] 10 [] mixed (by kernel_rfl) ?_|refine TRW.fork ?_|refine TRW.leaf ?_|refine TRW.both ?_ ?_|refine Gi2 (fun _=>?_) fun _=>?_|refine Gi3 ?_|refine Gi4 fun _=>?_|fail)
      refine RW.appendE hr1 inferInstance (Rd.blk (n := 2) (l := [Value.int .i64 x.op.kind, Value.int .u32 x.op.ad, Value.int .u64 x.op.size, Value.int .u64 x.op.mult, Value.int .u64 x.op.many, vx, Value.int .i64 x.out.errno, Value.int .u32 x.out.ad, Value.int .i64 x.out.n, wx, Value.bool x.ask, Value.int .i64 y.op.kind, Value.int .u32 y.op.ad, Value.int .u64 y.op.size, Value.int .u64 y.op.mult, Value.int .u64 y.op.many, vy, Value.int .i64 y.out.errno, Value.int .u32 y.out.ad, Value.int .i64 y.out.n, wy, Value.bool y.ask]) rfl (Nat.le_refl _)) (fun z hz => by
        simp only [List.mem_cons, List.not_mem_nil, or_false] at hz
        rcases hz with rfl | rfl | rfl | rfl | rfl | rfl | rfl | rfl | rfl | rfl | rfl | rfl | rfl | rfl | rfl | rfl | rfl | rfl | rfl | rfl | rfl | rfl <;> infer_instance) (by omega) (fun v2 N2 hr2 => pinOld ?_)
      have sv2 := hr2.sng
      rw [List.nil_append, Nat.zero_add] at hr2
      repeat' (first|refine Gi0 fun _=>?_|refine Gi1 ?_|refine CW.drawsTreeA (id := 2) (.fork [1, 3, 4, 5, 6] 0 7 (.fork [] 2 7 (.leaf [7, 8, 9, 10, 11, 12, 13, 14, 15]) (.leaf [2, 8, 9, 10, 11, 12, 13, 14, 15])) (.leaf [0, 2, 8, 9, 10, 11, 12, 13, 14, 15])) mixed (by kernel_rfl) ?_|refine CW.drawsSw (id := 8) [] [0, 1, 2, 3, 4, 5, 6, 7, 8, 9] 10 [] mixed (by kernel_rfl) ?_|refine TRW.fork ?_|refine TRW.leaf ?_|refine TRW.both ?_ ?_|refine Gi2 (fun _=>?_) fun _=>?_|refine Gi3 ?_|refine Gi4 fun _=>?_|fail)
      refine RW.call (few23 _ (acts ++ ([x] ++ [y])) 18 _ ⟨⟨_, by rw [List.length_append]; exact hr2.rd.mono (fun q hq => by simp [hq]), LAt.append (LAt.mono (fun c a h => ActAt.to c a h) hlat) (LAt.mono (fun c a h => ActAt.to c a h) hxy)⟩, by simp; omega⟩) ?_
      rintro _ _ ⟨⟨f, rfl, _⟩, rfl⟩
      refine pinAll ?_
      cases f with
      | false =>
        repeat' (first|refine Gi0 fun _=>?_|refine Gi1 ?_|refine CW.drawsTreeA (id := 2) (.fork [1, 3, 4, 5, 6] 0 7 (.fork [] 2 7 (.leaf [7, 8, 9, 10, 11, 12, 13, 14, 15]) (.leaf [2, 8, 9, 10, 11, 12, 13, 14, 15])) (.leaf [0, 2, 8, 9, 10, 11, 12, 13, 14, 15])) mixed (by kernel_rfl) ?_|refine CW.drawsSw (id := 8) [] [0, 1, 2, 3, 4, 5, 6, 7, 8, 9] 10 [] mixed (by kernel_rfl) ?_|refine TRW.fork ?_|refine TRW.leaf ?_|refine TRW.both ?_ ?_|refine Gi2 (fun _=>?_) fun _=>?_|refine Gi3 ?_|refine Gi4 fun _=>?_|fail)
        exact hN _ _ _ ⟨rfl, inferInstance, ⟨true, inferInstance, fun h => (by cases h)⟩, inferInstance, inferInstance, inferInstance, inferInstance⟩
      | true =>
        repeat' (first|refine Gi0 fun _=>?_|refine Gi1 ?_|refine CW.drawsTreeA (id := 2) (.fork [1, 3, 4, 5, 6] 0 7 (.fork [] 2 7 (.leaf [7, 8, 9, 10, 11, 12, 13, 14, 15]) (.leaf [2, 8, 9, 10, 11, 12, 13, 14, 15])) (.leaf [0, 2, 8, 9, 10, 11, 12, 13, 14, 15])) mixed (by kernel_rfl) ?_|refine CW.drawsSw (id := 8) [] [0, 1, 2, 3, 4, 5, 6, 7, 8, 9] 10 [] mixed (by kernel_rfl) ?_|refine TRW.fork ?_|refine TRW.leaf ?_|refine TRW.both ?_ ?_|refine Gi2 (fun _=>?_) fun _=>?_|refine Gi3 ?_|refine Gi4 fun _=>?_|fail)
        refine RW.call (num23 _ _) ?_
        rintro _ _ ⟨rfl, rfl⟩
        refine pinAll ?_
        by_cases he0 : e = 0
        · repeat' (first|refine Gi0 fun _=>?_|refine Gi1 ?_|refine CW.drawsTreeA (id := 2) (.fork [1, 3, 4, 5, 6] 0 7 (.fork [] 2 7 (.leaf [7, 8, 9, 10, 11, 12, 13, 14, 15]) (.leaf [2, 8, 9, 10, 11, 12, 13, 14, 15])) (.leaf [0, 2, 8, 9, 10, 11, 12, 13, 14, 15])) mixed (by kernel_rfl) ?_|refine CW.drawsSw (id := 8) [] [0, 1, 2, 3, 4, 5, 6, 7, 8, 9] 10 [] mixed (by kernel_rfl) ?_|refine TRW.fork ?_|refine TRW.leaf ?_|refine TRW.both ?_ ?_|refine Gi2 (fun _=>?_) fun _=>?_|refine Gi3 ?_|refine Gi4 fun _=>?_|fail)
          exact hN _ _ _ ⟨rfl, inferInstance, ⟨false, inferInstance, fun _ => he0⟩, inferInstance, inferInstance, inferInstance, inferInstance⟩
        · repeat' (first|refine Gi0 fun _=>?_|refine Gi1 ?_|refine CW.drawsTreeA (id := 2) (.fork [1, 3, 4, 5, 6] 0 7 (.fork [] 2 7 (.leaf [7, 8, 9, 10, 11, 12, 13, 14, 15]) (.leaf [2, 8, 9, 10, 11, 12, 13, 14, 15])) (.leaf [0, 2, 8, 9, 10, 11, 12, 13, 14, 15])) mixed (by kernel_rfl) ?_|refine CW.drawsSw (id := 8) [] [0, 1, 2, 3, 4, 5, 6, 7, 8, 9] 10 [] mixed (by kernel_rfl) ?_|refine TRW.fork ?_|refine TRW.leaf ?_|refine TRW.both ?_ ?_|refine Gi2 (fun _=>?_) fun _=>?_|refine Gi3 ?_|refine Gi4 fun _=>?_|fail)
          exact hN _ _ _ ⟨rfl, inferInstance, ⟨true, inferInstance, fun h => (by cases h)⟩, inferInstance, inferInstance, inferInstance, inferInstance⟩)
  rintro ρ ds L' ⟨rfl, hsfx, ⟨bb, e40, hbb⟩, e7, e1, e3, e5⟩
  obtain ⟨X0, rfl⟩ := hsfx.out
  cases bb with
  | true =>
    repeat' (first|refine Gi0 fun _=>?_|refine Gi1 ?_|refine CW.drawsTreeA (id := 2) (.fork [1, 3, 4, 5, 6] 0 7 (.fork [] 2 7 (.leaf [7, 8, 9, 10, 11, 12, 13, 14, 15]) (.leaf [2, 8, 9, 10, 11, 12, 13, 14, 15])) (.leaf [0, 2, 8, 9, 10, 11, 12, 13, 14, 15])) mixed (by kernel_rfl) ?_|refine CW.drawsSw (id := 8) [] [0, 1, 2, 3, 4, 5, 6, 7, 8, 9] 10 [] mixed (by kernel_rfl) ?_|refine TRW.fork ?_|refine TRW.leaf ?_|refine TRW.both ?_ ?_|refine Gi2 (fun _=>?_) fun _=>?_|refine Gi3 ?_|refine Gi4 fun _=>?_|fail)
    refine OW.call (works23 _) ?_
    rintro _ _ ⟨rfl, rfl⟩
    repeat' (first|refine Gi0 fun _=>?_|refine Gi1 ?_|refine CW.drawsTreeA (id := 2) (.fork [1, 3, 4, 5, 6] 0 7 (.fork [] 2 7 (.leaf [7, 8, 9, 10, 11, 12, 13, 14, 15]) (.leaf [2, 8, 9, 10, 11, 12, 13, 14, 15])) (.leaf [0, 2, 8, 9, 10, 11, 12, 13, 14, 15])) mixed (by kernel_rfl) ?_|refine CW.drawsSw (id := 8) [] [0, 1, 2, 3, 4, 5, 6, 7, 8, 9] 10 [] mixed (by kernel_rfl) ?_|refine TRW.fork ?_|refine TRW.leaf ?_|refine TRW.both ?_ ?_|refine Gi2 (fun _=>?_) fun _=>?_|refine Gi3 ?_|refine Gi4 fun _=>?_|fail)
    exact bodyK.retD L (Res.one Tryz.results3) ⟨rfl, rfl⟩
  | false =>
    obtain ⟨bn, bp, rfl, rfl⟩ := hp7 (hbb rfl)
    obtain ⟨g1, g2, g3, g4⟩ := (he (hbb rfl)).1
    clear he hbb hp7 hv1 e8 h5 h3 hmL hmem hsub hsfx
    have hm0 : WF ⟨a0, a1, []⟩ := start_wf ⟨g1, g2, g3, g4⟩
    have hr0 : MRest (X0 ++ ((bp, .map #[] 0) :: (b5, .cells #[.int .i64 x.op.kind, .int .u32 x.op.ad, .int .u64 x.op.size, .int .u64 x.op.mult, .int .u64 x.op.many, vx, .int .i64 x.out.errno, .int .u32 x.out.ad, .int .i64 x.out.n, wx, .bool x.ask, .int .i64 y.op.kind, .int .u32 y.op.ad, .int .u64 y.op.size, .int .u64 y.op.mult, .int .u64 y.op.many, vy, .int .i64 y.out.errno, .int .u32 y.out.ad, .int .i64 y.out.n, wy, .bool y.ask] 35 (0, 0)) :: (b3, .cells #[.int .i64 a0, .int .i64 a1] 22 (0, 0)) :: L)) bp ⟨a0, a1, []⟩ := ⟨[], 0, [], inferInstance, KV.nil _, ⟨rfl, fun _ h => (by cases h)⟩, .refl _⟩
    generalize hY : (bp, Obj.map #[] 0) :: (b5, Obj.cells #[Value.int .i64 x.op.kind, Value.int .u32 x.op.ad, Value.int .u64 x.op.size, Value.int .u64 x.op.mult, Value.int .u64 x.op.many, vx, Value.int .i64 x.out.errno, Value.int .u32 x.out.ad, Value.int .i64 x.out.n, wx, Value.bool x.ask, Value.int .i64 y.op.kind, Value.int .u32 y.op.ad, Value.int .u64 y.op.size, Value.int .u64 y.op.mult, Value.int .u64 y.op.many, vy, Value.int .i64 y.out.errno, Value.int .u32 y.out.ad, Value.int .i64 y.out.n, wy, Value.bool y.ask] 35 (0, 0)) :: (b3, Obj.cells #[Value.int .i64 a0, Value.int .i64 a1] 22 (0, 0)) :: L = Y at *
    have hsubY : SubC L Y := by subst hY; infer_instance
    have h5Y : InC Y b5 (.cells #[.int .i64 x.op.kind, .int .u32 x.op.ad, .int .u64 x.op.size, .int .u64 x.op.mult, .int .u64 x.op.many, vx, .int .i64 x.out.errno, .int .u32 x.out.ad, .int .i64 x.out.n, wx, .bool x.ask, .int .i64 y.op.kind, .int .u32 y.op.ad, .int .u64 y.op.size, .int .u64 y.op.mult, .int .u64 y.op.many, vy, .int .i64 y.out.errno, .int .u32 y.out.ad, .int .i64 y.out.n, wy, .bool y.ask] 35 (0, 0)) := by subst hY; infer_instance
    have h3Y : InC Y b3 (.cells #[.int .i64 a0, .int .i64 a1] 22 (0, 0)) := by subst hY; infer_instance
    have hmY : MemC L Y := ⟨hsubY.out.subset⟩
    clear hY
    repeat' (first|refine Gi0 fun _=>?_|refine Gi1 ?_|refine CW.drawsTreeA (id := 2) (.fork [1, 3, 4, 5, 6] 0 7 (.fork [] 2 7 (.leaf [7, 8, 9, 10, 11, 12, 13, 14, 15]) (.leaf [2, 8, 9, 10, 11, 12, 13, 14, 15])) (.leaf [0, 2, 8, 9, 10, 11, 12, 13, 14, 15])) mixed (by kernel_rfl) ?_|refine CW.drawsSw (id := 8) [] [0, 1, 2, 3, 4, 5, 6, 7, 8, 9] 10 [] mixed (by kernel_rfl) ?_|refine TRW.fork ?_|refine TRW.leaf ?_|refine TRW.both ?_ ?_|refine Gi2 (fun _=>?_) fun _=>?_|refine Gi3 ?_|refine Gi4 fun _=>?_|fail)
    rename_i b9
    refine CW.count acts.length (fun i ρ ds L' => ds = [] ∧ (∃ X m b w, L' = X ++ ((b9, .cells #[.int .i64 m.slot, .int .i64 m.quota, w] 44 (0, 0)) :: (X0 ++ ((bn, .cells (mcells m b).toArray 56 (0, 0)) :: Y))) ∧ MRest (X ++ (X0 ++ Y)) b m ∧ RL (X ++ (X0 ++ Y)) w m.L ∧ WF m) ∧ Ev ρ 1 (.slice aa acts.length ca) ∧ Ev ρ 5 (.pointer (some ⟨b5, 0, none⟩)) ∧ Ev ρ 7 (.pointer (some ⟨bn, 0, none⟩)) ∧ Ev ρ 9 (.pointer (some ⟨b9, 0, none⟩)) ∧ Ev ρ 10 (.int .i64 (i : Int)))
      ⟨rfl, ⟨[], ⟨a0, a1, []⟩, bp, .slice none 0 0, rfl, hr0, ⟨⟨[], ⟨by simp, .inl ⟨⟨_, _, rfl⟩, rfl⟩⟩, rfl⟩, by simp⟩, hm0⟩, inferInstance, inferInstance, inferInstance, inferInstance, inferInstance⟩ ?_
    clear hr0 hm0 e1 e3 e5 e7 e40
    rintro i ρ ds L' hi ⟨rfl, ⟨X, m, b, w, rfl, hr, hl, hwf⟩, e1, e5, e7, e9, e10⟩
    have sw := hl.sng
    by_cases hlt : i < acts.length
    · obtain ⟨bk, kk, capk, lk, ek, frk, hbe, hbin, hbc, hbn⟩ := hv.open (by omega)
      cases hbe
      obtain ⟨cc, hcut, vx2, vb2, rfl, hvx2, hvb2, hor, hou⟩ := hbn i hlt
      have hcut' : CutL lk (kk + i * 11) 11 [Value.int .i64 acts[i].op.kind, Value.int .u32 acts[i].op.ad, Value.int .u64 acts[i].op.size, Value.int .u64 acts[i].op.mult, Value.int .u64 acts[i].op.many, vx2, Value.int .i64 acts[i].out.errno, Value.int .u32 acts[i].out.ad, Value.int .i64 acts[i].out.n, vb2, Value.bool acts[i].ask] := hcut
      have hbinY : InC Y bk (.cells lk.toArray ek frk) := ⟨hmY.out _ hbin.out⟩
      have hsb : SubC [(bk, .cells lk.toArray ek frk)] Y := ⟨List.singleton_sublist.2 hbinY.out⟩
      have s5 := hvx2.sng
      have s6 := hvb2.sng
      have hwf2 : WF (actM m acts[i]) := actM_wf hwf hou (bs_byt hvx2) (bs_byt hvb2)
      have hkp := actM_keeps m acts[i]
      clear hcut
      generalize acts[i] = a at *
      repeat' (first|refine Gi0 fun _=>?_|refine Gi1 ?_|refine CW.drawsTreeA (id := 2) (.fork [1, 3, 4, 5, 6] 0 7 (.fork [] 2 7 (.leaf [7, 8, 9, 10, 11, 12, 13, 14, 15]) (.leaf [2, 8, 9, 10, 11, 12, 13, 14, 15])) (.leaf [0, 2, 8, 9, 10, 11, 12, 13, 14, 15])) mixed (by kernel_rfl) ?_|refine TRW.fork ?_|refine TRW.leaf ?_|refine TRW.both ?_ ?_|refine Gi2 (fun _=>?_) fun _=>?_|refine Gi3 ?_|refine Gi4 fun _=>?_|fail)
      refine CW.drawsF (id := 8) [(b9, .cells #[.int .i64 m.slot, .int .i64 m.quota, w] 44 (0, 0)), (bk, .cells lk.toArray ek frk)] [0, 1, 2, 3, 4, 5, 6, 7, 8] 9 10 mixed (by kernel_rfl) ?_
      repeat' (first|refine Gi0 fun _=>?_|refine Gi1 ?_|refine Gi2 (fun _=>?_) fun _=>?_|refine Gi3 ?_|refine Gi4 fun _=>?_|fail)
      refine RW.call (actAt bn b m hwf w a vx2 vb2 (X ++ (X0 ++ Y)) _ (fun q hq => by
        simp only [List.mem_append, List.mem_cons, List.nil_append, List.not_mem_nil, false_or] at hq ⊢
        rcases hq with h | h | h <;> simp [h]) hr hl hvx2.to hvb2.to hor hou) ?_
      rintro _ _ ⟨N, b2, w2, rfl, rfl, hr2, hl2⟩
      have sw2 := hl2.sng
      refine pinOld ?_
      generalize actM m a = m' at *
      repeat' (first|refine Gi0 fun _=>?_|refine Gi1 ?_|refine Gi2 (fun _=>?_) fun _=>?_|refine Gi3 ?_|refine Gi4 fun _=>?_|fail)
      constructor
      all_goals repeat' (first|refine Gi0 fun _=>?_|refine Gi1 ?_|refine Gi2 (fun _=>?_) fun _=>?_|refine Gi3 ?_|refine Gi4 fun _=>?_|fail)
      all_goals (
        refine ⟨hlt, rfl, ⟨N ++ X, m', b2, w2, by simp, ?_, ?_, hwf2⟩, inferInstance, inferInstance, inferInstance, inferInstance, by rw [Int.natCast_add]; infer_instance⟩
        · rw [List.append_assoc]; exact hr2
        · rw [List.append_assoc]; exact hl2)
    · obtain rfl : i = acts.length := by omega
      have hbl : ∀ {m : Mod}, WF m → ∀ p ∈ m.L, p.b.length ≤ 16777216 := fun h p hp => rooms_len h hp
      have hw1 : WF (actM m x) := actM_wf hwf hux (bs_byt hvx) (bs_byt hwx)
      have hw2 : WF (actM m y) := actM_wf hwf huy (bs_byt hvy) (bs_byt hwy)
      repeat' (first|refine Gi0 fun _=>?_|refine Gi1 ?_|refine CW.drawsTreeA (id := 2) (.fork [1, 3, 4, 5, 6] 0 7 (.fork [] 2 7 (.leaf [7, 8, 9, 10, 11, 12, 13, 14, 15]) (.leaf [2, 8, 9, 10, 11, 12, 13, 14, 15])) (.leaf [0, 2, 8, 9, 10, 11, 12, 13, 14, 15])) mixed (by kernel_rfl) ?_|refine CW.drawsSw (id := 8) [] [0, 1, 2, 3, 4, 5, 6, 7, 8, 9] 10 [] mixed (by kernel_rfl) ?_|refine TRW.fork ?_|refine TRW.leaf ?_|refine TRW.both ?_ ?_|refine Gi2 (fun _=>?_) fun _=>?_|refine Gi3 ?_|refine Gi4 fun _=>?_|fail)
      refine OW.call (modelCopy bn b m (X ++ (X0 ++ Y)) _ (hD := ⟨fun q hq => by
        simp only [List.mem_append, List.mem_cons] at hq ⊢
        rcases hq with h | h | h <;> simp [h]⟩) hr) ?_
      rintro _ _ ⟨bc, bq, N1, rfl, rfl, hr1⟩
      repeat' (first|refine Gi0 fun _=>?_|refine Gi1 ?_|refine CW.drawsTreeA (id := 2) (.fork [1, 3, 4, 5, 6] 0 7 (.fork [] 2 7 (.leaf [7, 8, 9, 10, 11, 12, 13, 14, 15]) (.leaf [2, 8, 9, 10, 11, 12, 13, 14, 15])) (.leaf [0, 2, 8, 9, 10, 11, 12, 13, 14, 15])) mixed (by kernel_rfl) ?_|refine CW.drawsSw (id := 8) [] [0, 1, 2, 3, 4, 5, 6, 7, 8, 9] 10 [] mixed (by kernel_rfl) ?_|refine TRW.fork ?_|refine TRW.leaf ?_|refine TRW.both ?_ ?_|refine Gi2 (fun _=>?_) fun _=>?_|refine Gi3 ?_|refine Gi4 fun _=>?_|fail)
      refine OW.call (actAt bn b m hwf w x vx wx (X ++ (X0 ++ Y)) _ (fun q hq => by
        simp only [List.mem_append, List.mem_cons, List.nil_append, List.not_mem_nil, false_or] at hq ⊢
        rcases hq with h | h | h <;> simp [h]) hr hl hvx.to hwx.to hox hux) ?_
      rintro _ _ ⟨N2, b2, w1, rfl, rfl, hr2, hl2⟩
      have sw1 := hl2.sng
      generalize hm1 : actM m x = m1 at *
      repeat' (first|refine Gi0 fun _=>?_|refine Gi1 ?_|refine CW.drawsTreeA (id := 2) (.fork [1, 3, 4, 5, 6] 0 7 (.fork [] 2 7 (.leaf [7, 8, 9, 10, 11, 12, 13, 14, 15]) (.leaf [2, 8, 9, 10, 11, 12, 13, 14, 15])) (.leaf [0, 2, 8, 9, 10, 11, 12, 13, 14, 15])) mixed (by kernel_rfl) ?_|refine CW.drawsSw (id := 8) [] [0, 1, 2, 3, 4, 5, 6, 7, 8, 9] 10 [] mixed (by kernel_rfl) ?_|refine TRW.fork ?_|refine TRW.leaf ?_|refine TRW.both ?_ ?_|refine Gi2 (fun _=>?_) fun _=>?_|refine Gi3 ?_|refine Gi4 fun _=>?_|fail)
      refine OW.call (actAt bc bq m hwf w y vy wy (N1 ++ (X ++ (X0 ++ Y))) _ (fun q hq => by
        simp only [List.mem_append, List.mem_cons, List.nil_append, List.not_mem_nil, false_or] at hq ⊢
        rcases hq with h | h | h | h <;> simp [h]) hr1 (RL.to' (hm := ⟨fun q hq => List.mem_append_right _ hq⟩) hl) hvy.to hwy.to hoy huy) ?_
      rintro _ _ ⟨N3, bd, w2, rfl, rfl, hr3, hl3⟩
      have sw2 := hl3.sng
      generalize hm2 : actM m y = m2 at *
      repeat' (first|refine Gi0 fun _=>?_|refine Gi1 ?_|refine CW.drawsTreeA (id := 2) (.fork [1, 3, 4, 5, 6] 0 7 (.fork [] 2 7 (.leaf [7, 8, 9, 10, 11, 12, 13, 14, 15]) (.leaf [2, 8, 9, 10, 11, 12, 13, 14, 15])) (.leaf [0, 2, 8, 9, 10, 11, 12, 13, 14, 15])) mixed (by kernel_rfl) ?_|refine CW.drawsSw (id := 8) [] [0, 1, 2, 3, 4, 5, 6, 7, 8, 9] 10 [] mixed (by kernel_rfl) ?_|refine TRW.fork ?_|refine TRW.leaf ?_|refine TRW.both ?_ ?_|refine Gi2 (fun _=>?_) fun _=>?_|refine Gi3 ?_|refine Gi4 fun _=>?_|fail)
      refine OW.call (rSame m1 m2 w1 w2 _ (RL.to' (hm := ⟨fun q hq => by
        simp only [List.mem_append, List.mem_cons] at hq ⊢
        rcases hq with h | h | h | h <;> simp [h]⟩) hl2) (RL.to' (hm := ⟨fun q hq => by
        simp only [List.mem_append, List.mem_cons] at hq ⊢
        rcases hq with h | h | h | h | h <;> simp [h]⟩) hl3) (hbl hw1) (hbl hw2)) ?_
      rintro _ _ ⟨rfl, rfl⟩
      have hcomm : decide (m2 = m1) = decide (m1 = m2) := by congr 1; rw [eq_iff_iff]; exact eq_comm
      generalize hsm : decide (m1 = m2) = sm at *
      repeat' (first|refine Gi0 fun _=>?_|refine Gi1 ?_|refine CW.drawsTreeA (id := 2) (.fork [1, 3, 4, 5, 6] 0 7 (.fork [] 2 7 (.leaf [7, 8, 9, 10, 11, 12, 13, 14, 15]) (.leaf [2, 8, 9, 10, 11, 12, 13, 14, 15])) (.leaf [0, 2, 8, 9, 10, 11, 12, 13, 14, 15])) mixed (by kernel_rfl) ?_|refine CW.drawsSw (id := 8) [] [0, 1, 2, 3, 4, 5, 6, 7, 8, 9] 10 [] mixed (by kernel_rfl) ?_|refine TRW.fork ?_|refine TRW.leaf ?_|refine TRW.both ?_ ?_|refine Gi2 (fun _=>?_) fun _=>?_|refine Gi3 ?_|refine Gi4 fun _=>?_|fail)
      refine OW.call (isLaw bn b2 m1 hw1 w1 (N2 ++ (X ++ (X0 ++ Y))) _ (hDm := ⟨fun q hq => by
        simp only [List.mem_append, List.mem_cons] at hq ⊢
        rcases hq with h | h | h | h <;> simp [h]⟩) hr2 (RL.to' (hm := ⟨fun q hq => by
        simp only [List.mem_append, List.mem_cons] at hq ⊢
        rcases hq with h | h | h | h <;> simp [h]⟩) hl2)) ?_
      rintro _ _ ⟨rfl, rfl⟩
      repeat' (first|refine Gi0 fun _=>?_|refine Gi1 ?_|refine CW.drawsTreeA (id := 2) (.fork [1, 3, 4, 5, 6] 0 7 (.fork [] 2 7 (.leaf [7, 8, 9, 10, 11, 12, 13, 14, 15]) (.leaf [2, 8, 9, 10, 11, 12, 13, 14, 15])) (.leaf [0, 2, 8, 9, 10, 11, 12, 13, 14, 15])) mixed (by kernel_rfl) ?_|refine CW.drawsSw (id := 8) [] [0, 1, 2, 3, 4, 5, 6, 7, 8, 9] 10 [] mixed (by kernel_rfl) ?_|refine TRW.fork ?_|refine TRW.leaf ?_|refine TRW.both ?_ ?_|refine Gi2 (fun _=>?_) fun _=>?_|refine Gi3 ?_|refine Gi4 fun _=>?_|fail)
      refine OW.call (isLaw bc bd m2 hw2 w2 (N3 ++ (N1 ++ (X ++ (X0 ++ Y)))) _ (hDm := ⟨fun q hq => by
        simp only [List.mem_append, List.mem_cons] at hq ⊢
        rcases hq with h | h | h | h | h <;> simp [h]⟩) hr3 (RL.to' (hm := ⟨fun q hq => by
        simp only [List.mem_append, List.mem_cons] at hq ⊢
        rcases hq with h | h | h | h | h <;> simp [h]⟩) hl3)) ?_
      rintro _ _ ⟨rfl, rfl⟩
      repeat' (first|refine Gi0 fun _=>?_|refine Gi1 ?_|refine CW.drawsTreeA (id := 2) (.fork [1, 3, 4, 5, 6] 0 7 (.fork [] 2 7 (.leaf [7, 8, 9, 10, 11, 12, 13, 14, 15]) (.leaf [2, 8, 9, 10, 11, 12, 13, 14, 15])) (.leaf [0, 2, 8, 9, 10, 11, 12, 13, 14, 15])) mixed (by kernel_rfl) ?_|refine CW.drawsSw (id := 8) [] [0, 1, 2, 3, 4, 5, 6, 7, 8, 9] 10 [] mixed (by kernel_rfl) ?_|refine TRW.fork ?_|refine TRW.leaf ?_|refine TRW.both ?_ ?_|refine Gi2 (fun _=>?_) fun _=>?_|refine Gi3 ?_|refine Gi4 fun _=>?_|fail)
      refine OW.call (modelSame bn b2 m1 bc bd m2 hw1 hw2 _ _ (hD := ⟨fun q hq => hq⟩) (hr2.to (hm := ⟨fun q hq => by
        simp only [List.mem_append, List.mem_cons] at hq ⊢
        rcases hq with h | h | h | h <;> simp [h]⟩)) (hr3.to (hm := ⟨fun q hq => by
        simp only [List.mem_append, List.mem_cons] at hq ⊢
        rcases hq with h | h | h | h | h <;> simp [h]⟩))) ?_
      rintro _ _ ⟨rfl, rfl⟩
      rw [hsm]
      repeat' (first|refine Gi0 fun _=>?_|refine Gi1 ?_|refine CW.drawsTreeA (id := 2) (.fork [1, 3, 4, 5, 6] 0 7 (.fork [] 2 7 (.leaf [7, 8, 9, 10, 11, 12, 13, 14, 15]) (.leaf [2, 8, 9, 10, 11, 12, 13, 14, 15])) (.leaf [0, 2, 8, 9, 10, 11, 12, 13, 14, 15])) mixed (by kernel_rfl) ?_|refine CW.drawsSw (id := 8) [] [0, 1, 2, 3, 4, 5, 6, 7, 8, 9] 10 [] mixed (by kernel_rfl) ?_|refine TRW.fork ?_|refine TRW.leaf ?_|refine TRW.both ?_ ?_|refine Gi2 (fun _=>?_) fun _=>?_|refine Gi3 ?_|refine Gi4 fun _=>?_|fail)
      refine OW.call (modelSame bc bd m2 bn b2 m1 hw2 hw1 _ _ (hD := ⟨fun q hq => hq⟩) (hr3.to (hm := ⟨fun q hq => by
        simp only [List.mem_append, List.mem_cons] at hq ⊢
        rcases hq with h | h | h | h | h <;> simp [h]⟩)) (hr2.to (hm := ⟨fun q hq => by
        simp only [List.mem_append, List.mem_cons] at hq ⊢
        rcases hq with h | h | h | h <;> simp [h]⟩))) ?_
      rintro _ _ ⟨rfl, rfl⟩
      rw [hcomm]
      repeat' (first|refine Gi0 fun _=>?_|refine Gi1 ?_|refine CW.drawsTreeA (id := 2) (.fork [1, 3, 4, 5, 6] 0 7 (.fork [] 2 7 (.leaf [7, 8, 9, 10, 11, 12, 13, 14, 15]) (.leaf [2, 8, 9, 10, 11, 12, 13, 14, 15])) (.leaf [0, 2, 8, 9, 10, 11, 12, 13, 14, 15])) mixed (by kernel_rfl) ?_|refine CW.drawsSw (id := 8) [] [0, 1, 2, 3, 4, 5, 6, 7, 8, 9] 10 [] mixed (by kernel_rfl) ?_|refine TRW.fork ?_|refine TRW.leaf ?_|refine TRW.both ?_ ?_|refine Gi2 (fun _=>?_) fun _=>?_|refine Gi3 ?_|refine Gi4 fun _=>?_|fail)
      refine OW.call (works23 _) ?_
      rintro _ _ ⟨rfl, rfl⟩
      repeat' (first|refine Gi0 fun _=>?_|refine Gi1 ?_|refine CW.drawsTreeA (id := 2) (.fork [1, 3, 4, 5, 6] 0 7 (.fork [] 2 7 (.leaf [7, 8, 9, 10, 11, 12, 13, 14, 15]) (.leaf [2, 8, 9, 10, 11, 12, 13, 14, 15])) (.leaf [0, 2, 8, 9, 10, 11, 12, 13, 14, 15])) mixed (by kernel_rfl) ?_|refine CW.drawsSw (id := 8) [] [0, 1, 2, 3, 4, 5, 6, 7, 8, 9] 10 [] mixed (by kernel_rfl) ?_|refine TRW.fork ?_|refine TRW.leaf ?_|refine TRW.both ?_ ?_|refine Gi2 (fun _=>?_) fun _=>?_|refine Gi3 ?_|refine Gi4 fun _=>?_|fail)
      exact bodyK.retD L (Res.one Tryz.results3) ⟨rfl, rfl⟩
end Go.Proofs.YtocjgcmgkaabiaaGreat
