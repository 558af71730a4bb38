/-
  For every input the law ModelCopies returns true, and each argument reads behind the call as it read before. This text holds lemmas for it (part 20).
  Conditions: none.
-/
import Derived.Test.YtocjgcmgkaabiaaGreatMC2
import Derived.Test.YtocjgcmgkaabiaaGreatMC17
import Derived.Test.YtocjgcmgkaabiaaGreatMC18
import Derived.Test.YtocjgcmgkaabiaaGreatMC19
set_option linter.all false
namespace Go.Proofs.YtocjgcmgkaabiaaGreat
open Go Go.Pw Go.Pw.Sc Go.Pw.Md
set_option maxRecDepth 100000
set_option maxHeartbeats 4000000
set_option synthInstance.maxHeartbeats 400000
set_option synthInstance.maxSize 2000
attribute [local irreducible] CW OW RW thenK blockK
attribute [local irreducible] scopeK loopK TRW ATW


def actM (m : Mod) (x : ActM) : Mod := if x.ask then m else after m x.op x.out
theorem after_step {m : Mod} {x : OpM} {o : OutM} {r : Mod × Bool} (hk : 1 ≤ x.kind ∧ x.kind ≤ 7) (h : Md.step m x o = r) : after m x o = if r.2 then r.1 else m := by
  unfold after Md.next
  rw [if_pos hk, h]
theorem after_bad {m : Mod} {x : OpM} {o : OutM} (hk : ¬ (1 ≤ x.kind ∧ x.kind ≤ 7)) : after m x o = m := by
  unfold after Md.next
  rw [if_neg hk]
  rfl
theorem actLaw (bm bp : Nat) (m : Mod) (hwf : WF m) (v : Value) (x : ActM) (vx vb : Value) (D A B : Chunk) (hD : ∀ q ∈ D, q ∈ A ++ B) (hr : MRest D bp m) (hl : RL D v m.L) (hvx0 : BS (A ++ B) vx x.op.bytes) (hvb0 : BS (A ++ B) vb x.out.bytes) (hor : OpR0 x.op) (hou : OutR0 x.out) :
    Fn1 Tryz.prog 8 [.pointer (some ⟨bm, 0, none⟩), mV m v, .agg #[.int .i64 x.op.kind, .int .u32 x.op.ad, .int .u64 x.op.size, .int .u64 x.op.mult, .int .u64 x.op.many, vx, .int .i64 x.out.errno, .int .u32 x.out.ad, .int .i64 x.out.n, vb, .bool x.ask]] (A ++ [(bm, .cells (mcells m bp).toArray 56 (0, 0))] ++ B)
      (fun u L' => ∃ N b2 v', u = .tuple #[mV (actM m x) v', .bool true] ∧ L' = N ++ (A ++ [(bm, .cells (mcells (actM m x) b2).toArray 56 (0, 0))] ++ B) ∧ MRest (N ++ D) b2 (actM m x) ∧ RL (N ++ D) v' (actM m x).L) := by
  have hmAB : MemC (A ++ B) (A ++ [(bm, .cells (mcells m bp).toArray 56 (0, 0))] ++ B) := ⟨fun q hq => by
    simp only [List.mem_append] at hq ⊢
    rcases hq with h | h
    · exact .inl (.inl h)
    · exact .inr h⟩
  have hvx : BS (A ++ [(bm, .cells (mcells m bp).toArray 56 (0, 0))] ++ B) vx x.op.bytes := hvx0.to
  have hvb : BS (A ++ [(bm, .cells (mcells m bp).toArray 56 (0, 0))] ++ B) vb x.out.bytes := hvb0.to
  have hDL : MemC D (A ++ [(bm, .cells (mcells m bp).toArray 56 (0, 0))] ++ B) := ⟨fun q hq => hmAB.out q (hD q hq)⟩
  have hbm : InC (A ++ [(bm, .cells (mcells m bp).toArray 56 (0, 0))] ++ B) bm (.cells (mcells m bp).toArray 56 (0, 0)) := ⟨by simp⟩
  have sx := hvx.sng
  have sb := hvb.sng
  have hl' := hl
  obtain ⟨av, cv, rfl⟩ := hl'.slice
  obtain ⟨⟨kind, ad, size, mult, many, xb⟩, ⟨errno, oad, on, ob⟩, ask⟩ := x
  simp only at hvx hvb hor hou
  show Fn1 _ _ [.pointer (some ⟨bm, 0, none⟩), mV m (.slice av m.L.length cv), .agg #[.int .i64 kind, .int .u32 ad, .int .u64 size, .int .u64 mult, .int .u64 many, vx, .int .i64 errno, .int .u32 oad, .int .i64 on, vb, .bool ask]] _ _
  generalize hW : A ++ [(bm, Obj.cells (mcells m bp).toArray 56 (0, 0))] ++ B = W at *
  intro w0; refine Spec.enter3 Tryz.func8 rfl Tryz.ntmps8 (by decide) ?_
  repeat' (first|refine Gi0 fun _=>?_|refine Gi1 ?_|refine CW.drawsS (id := 8) 6 [0,1,2,3,4,5,6,7,8,9] mixed (by kernel_rfl) ?_|refine CW.drawsS (id := 12) 6 [0,1,2,3,4,5,6,7,8,9,10] mixed (by kernel_rfl) ?_|refine Gi2 (fun _=>?_) fun _=>?_|refine Gi3 ?_|refine Gi4 fun _=>?_|fail)
  rename_i b4 b5 b6
  refine OW.call (modelCopy bm bp m D _ hr) ?_
  rintro _ _ ⟨bn, b, N1, rfl, rfl, hr1⟩
  repeat' (first|refine Gi0 fun _=>?_|refine Gi1 ?_|refine CW.drawsS (id := 8) 6 [0,1,2,3,4,5,6,7,8,9] mixed (by kernel_rfl) ?_|refine CW.drawsS (id := 12) 6 [0,1,2,3,4,5,6,7,8,9,10] mixed (by kernel_rfl) ?_|refine Gi2 (fun _=>?_) fun _=>?_|refine Gi3 ?_|refine Gi4 fun _=>?_|fail)
  refine OW.call (modelMay bn b m hwf ⟨kind, ad, size, mult, many, xb⟩ (opR hor) ⟨errno, oad, on, ob⟩ vx vb (N1 ++ D) _ hvx.to (hD := ⟨fun q hq => by
    have := hDL.out
    simp only [List.mem_append, List.mem_cons] at hq ⊢
    rcases hq with h | h
    · simp [h]
    · simp [this _ h]⟩) hr1 hvb.to (outR hou)) ?_
  rintro _ _ ⟨N2, rfl, rfl⟩
  generalize hq2 : (Md.next m ⟨kind, ad, size, mult, many, xb⟩ ⟨errno, oad, on, ob⟩).2 = q2
  generalize hqe : nextE ⟨kind, ad, size, mult, many, xb⟩ = qe
  repeat' (first|refine Gi0 fun _=>?_|refine Gi1 ?_|refine CW.drawsS (id := 8) 6 [0,1,2,3,4,5,6,7,8,9] mixed (by kernel_rfl) ?_|refine CW.drawsS (id := 12) 6 [0,1,2,3,4,5,6,7,8,9,10] mixed (by kernel_rfl) ?_|refine Gi2 (fun _=>?_) fun _=>?_|refine Gi3 ?_|refine Gi4 fun _=>?_|fail)
  refine OW.call (modelSame bn b m bm bp m hwf hwf (N1 ++ D) _ (hD := ⟨fun q hq => by
    have := hDL.out
    simp only [List.mem_append, List.mem_cons] at hq ⊢
    rcases hq with h | h
    · simp [h]
    · simp [this _ h]⟩) hr1 (hr.to (hm := ⟨fun q hq => List.mem_append_right _ hq⟩))) ?_
  rintro _ _ ⟨rfl, rfl⟩
  rw [decide_eq_true (rfl : m = m)]
  have hmX : ∀ X : Chunk, MemC (A ++ B) (A ++ X ++ B) := fun X => ⟨fun q hq => by
    simp only [List.mem_append] at hq ⊢
    rcases hq with h | h
    · exact .inl (.inl h)
    · exact .inr h⟩
  repeat' (first|refine Gi0 fun _=>?_|refine Gi1 ?_|refine CW.drawsS (id := 8) 6 [0,1,2,3,4,5,6,7,8,9] mixed (by kernel_rfl) ?_|refine CW.drawsS (id := 12) 6 [0,1,2,3,4,5,6,7,8,9,10] mixed (by kernel_rfl) ?_|refine Gi2 (fun _=>?_) fun _=>?_|refine Gi3 ?_|refine Gi4 fun _=>?_|fail)
  cases ask with
  | true =>
    have ea : actM m ⟨⟨kind, ad, size, mult, many, xb⟩, ⟨errno, oad, on, ob⟩, true⟩ = m := by simp [actM]
    rw [ea]
    subst hW
    repeat' (first|refine Gi0 fun _=>?_|refine Gi1 ?_|refine CW.drawsS (id := 8) 6 [0,1,2,3,4,5,6,7,8,9] mixed (by kernel_rfl) ?_|refine CW.drawsS (id := 12) 6 [0,1,2,3,4,5,6,7,8,9,10] mixed (by kernel_rfl) ?_|refine Gi2 (fun _=>?_) fun _=>?_|refine Gi3 ?_|refine Gi4 fun _=>?_|fail)
    refine OW.call (kind23 kind _) ?_
    rintro _ _ ⟨rfl, rfl⟩
    by_cases hk : 1 ≤ kind ∧ kind ≤ 7
    · have e3 : qe = 0 := by rw [← hqe]; unfold nextE; rw [if_pos hk]
      subst e3
      rw [decide_eq_true hk]
      repeat' (first|refine Gi0 fun _=>?_|refine Gi1 ?_|refine CW.drawsS (id := 8) 6 [0,1,2,3,4,5,6,7,8,9] mixed (by kernel_rfl) ?_|refine CW.drawsS (id := 12) 6 [0,1,2,3,4,5,6,7,8,9,10] mixed (by kernel_rfl) ?_|refine Gi2 (fun _=>?_) fun _=>?_|refine Gi3 ?_|refine Gi4 fun _=>?_|fail)
      refine OW.call (rDo m hwf _ ⟨kind, ad, size, mult, many, xb⟩ (opR hor) hk ⟨errno, oad, on, ob⟩ vx vb (outR hou) D _ (hD := ⟨fun q hq => by
        have := hD q hq
        simp only [List.mem_append, List.mem_cons, List.not_mem_nil, or_false] at this ⊢
        rcases this with h | h <;> simp [h]⟩) hl hvx0.to hvb0.to) ?_
      rintro _ _ ⟨m2, v2, N4, rfl, rfl, sv2, hr2⟩
      generalize hst : Md.step m ⟨kind, ad, size, mult, many, xb⟩ ⟨errno, oad, on, ob⟩ = r at *
      obtain ⟨r1, r2⟩ := r
      have e2 : q2 = r2 := by rw [← hq2]; unfold Md.next; rw [if_pos hk, hst]
      subst e2
      simp only at hr2 ⊢
      cases q2 with
      | false =>
        repeat' (first|refine Gi0 fun _=>?_|refine Gi1 ?_|refine CW.drawsS (id := 8) 6 [0,1,2,3,4,5,6,7,8,9] mixed (by kernel_rfl) ?_|refine CW.drawsS (id := 12) 6 [0,1,2,3,4,5,6,7,8,9,10] mixed (by kernel_rfl) ?_|refine Gi2 (fun _=>?_) fun _=>?_|refine Gi3 ?_|refine Gi4 fun _=>?_|fail)
        refine RW.call (num23 0 _) ?_
        rintro _ _ ⟨rfl, rfl⟩
        refine pinOld ?_
        repeat' (first|refine Gi0 fun _=>?_|refine Gi1 ?_|refine CW.drawsS (id := 8) 6 [0,1,2,3,4,5,6,7,8,9] mixed (by kernel_rfl) ?_|refine CW.drawsS (id := 12) 6 [0,1,2,3,4,5,6,7,8,9,10] mixed (by kernel_rfl) ?_|refine Gi2 (fun _=>?_) fun _=>?_|refine Gi3 ?_|refine Gi4 fun _=>?_|fail)
        refine bodyK.ret (Res.of2 Tryz.results8) ⟨_, bp, _, rfl, Pre.out, ?_, ?_⟩
        · refine MRest.to (hm := ⟨fun q hq => ?_⟩) hr
          simp only [List.mem_append, List.mem_cons] at hq ⊢
          simp [hq]
        · refine RL.to' (hm := ⟨fun q hq => ?_⟩) hl
          simp only [List.mem_append, List.mem_cons] at hq ⊢
          simp [hq]
      | true =>
        repeat' (first|refine Gi0 fun _=>?_|refine Gi1 ?_|refine CW.drawsS (id := 8) 6 [0,1,2,3,4,5,6,7,8,9] mixed (by kernel_rfl) ?_|refine CW.drawsS (id := 12) 6 [0,1,2,3,4,5,6,7,8,9,10] mixed (by kernel_rfl) ?_|refine Gi2 (fun _=>?_) fun _=>?_|refine Gi3 ?_|refine Gi4 fun _=>?_|fail)
        refine RW.call (num23 0 _) ?_
        rintro _ _ ⟨rfl, rfl⟩
        refine pinOld ?_
        repeat' (first|refine Gi0 fun _=>?_|refine Gi1 ?_|refine CW.drawsS (id := 8) 6 [0,1,2,3,4,5,6,7,8,9] mixed (by kernel_rfl) ?_|refine CW.drawsS (id := 12) 6 [0,1,2,3,4,5,6,7,8,9,10] mixed (by kernel_rfl) ?_|refine Gi2 (fun _=>?_) fun _=>?_|refine Gi3 ?_|refine Gi4 fun _=>?_|fail)
        refine bodyK.ret (Res.of2 Tryz.results8) ⟨_, bp, _, rfl, Pre.out, ?_, ?_⟩
        · refine MRest.to (hm := ⟨fun q hq => ?_⟩) hr
          simp only [List.mem_append, List.mem_cons] at hq ⊢
          simp [hq]
        · refine RL.to' (hm := ⟨fun q hq => ?_⟩) hl
          simp only [List.mem_append, List.mem_cons] at hq ⊢
          simp [hq]
    · have e2 : q2 = false := by rw [← hq2]; unfold Md.next; rw [if_neg hk]
      have e3 : qe = 2 := by rw [← hqe]; unfold nextE; rw [if_neg hk]
      subst e2 e3
      rw [decide_eq_false hk]
      repeat' (first|refine Gi0 fun _=>?_|refine Gi1 ?_|refine CW.drawsS (id := 8) 6 [0,1,2,3,4,5,6,7,8,9] mixed (by kernel_rfl) ?_|refine CW.drawsS (id := 12) 6 [0,1,2,3,4,5,6,7,8,9,10] mixed (by kernel_rfl) ?_|refine Gi2 (fun _=>?_) fun _=>?_|refine Gi3 ?_|refine Gi4 fun _=>?_|fail)
      refine RW.call (num23 2 _) ?_
      rintro _ _ ⟨rfl, rfl⟩
      refine pinOld ?_
      repeat' (first|refine Gi0 fun _=>?_|refine Gi1 ?_|refine CW.drawsS (id := 8) 6 [0,1,2,3,4,5,6,7,8,9] mixed (by kernel_rfl) ?_|refine CW.drawsS (id := 12) 6 [0,1,2,3,4,5,6,7,8,9,10] mixed (by kernel_rfl) ?_|refine Gi2 (fun _=>?_) fun _=>?_|refine Gi3 ?_|refine Gi4 fun _=>?_|fail)
      refine bodyK.ret (Res.of2 Tryz.results8) ⟨_, bp, _, rfl, Pre.out, ?_, ?_⟩
      · refine MRest.to (hm := ⟨fun q hq => ?_⟩) hr
        simp only [List.mem_append, List.mem_cons] at hq ⊢
        simp [hq]
      · refine RL.to' (hm := ⟨fun q hq => ?_⟩) hl
        simp only [List.mem_append, List.mem_cons] at hq ⊢
        simp [hq]
  | false =>
    have ea : actM m ⟨⟨kind, ad, size, mult, many, xb⟩, ⟨errno, oad, on, ob⟩, false⟩ = after m ⟨kind, ad, size, mult, many, xb⟩ ⟨errno, oad, on, ob⟩ := by simp [actM]
    rw [ea]
    subst hW
    repeat' (first|refine Gi0 fun _=>?_|refine Gi1 ?_|refine CW.drawsS (id := 8) 6 [0,1,2,3,4,5,6,7,8,9] mixed (by kernel_rfl) ?_|refine CW.drawsS (id := 12) 6 [0,1,2,3,4,5,6,7,8,9,10] mixed (by kernel_rfl) ?_|refine Gi2 (fun _=>?_) fun _=>?_|refine Gi3 ?_|refine Gi4 fun _=>?_|fail)
    refine OW.call (modelDo bm bp m hwf ⟨kind, ad, size, mult, many, xb⟩ (opR hor) ⟨errno, oad, on, ob⟩ vx vb D _ hvx0.to (hD := ⟨fun q hq => by
        have := hD q hq
        simp only [List.mem_append, List.mem_cons, List.not_mem_nil, or_false] at this ⊢
        rcases this with h | h <;> simp [h]⟩) hr hvb0.to (outR hou)) ?_
    rintro _ _ ⟨N3, b2, rfl, rfl, hr3⟩
    rw [hq2, hqe]
    repeat' (first|refine Gi0 fun _=>?_|refine Gi1 ?_|refine CW.drawsS (id := 8) 6 [0,1,2,3,4,5,6,7,8,9] mixed (by kernel_rfl) ?_|refine CW.drawsS (id := 12) 6 [0,1,2,3,4,5,6,7,8,9,10] mixed (by kernel_rfl) ?_|refine Gi2 (fun _=>?_) fun _=>?_|refine Gi3 ?_|refine Gi4 fun _=>?_|fail)
    refine OW.call (kind23 kind _) ?_
    rintro _ _ ⟨rfl, rfl⟩
    by_cases hk : 1 ≤ kind ∧ kind ≤ 7
    · have e3 : qe = 0 := by rw [← hqe]; unfold nextE; rw [if_pos hk]
      subst e3
      rw [decide_eq_true hk]
      repeat' (first|refine Gi0 fun _=>?_|refine Gi1 ?_|refine CW.drawsS (id := 8) 6 [0,1,2,3,4,5,6,7,8,9] mixed (by kernel_rfl) ?_|refine CW.drawsS (id := 12) 6 [0,1,2,3,4,5,6,7,8,9,10] mixed (by kernel_rfl) ?_|refine Gi2 (fun _=>?_) fun _=>?_|refine Gi3 ?_|refine Gi4 fun _=>?_|fail)
      refine OW.call (rDo m hwf _ ⟨kind, ad, size, mult, many, xb⟩ (opR hor) hk ⟨errno, oad, on, ob⟩ vx vb (outR hou) D _ (hD := ⟨fun q hq => by
        have := hD q hq
        simp only [List.mem_append, List.mem_cons, List.not_mem_nil, or_false] at this ⊢
        rcases this with h | h <;> simp [h]⟩) hl hvx0.to hvb0.to) ?_
      rintro _ _ ⟨m2, v2, N4, rfl, rfl, sv2, hr2⟩
      generalize hst : Md.step m ⟨kind, ad, size, mult, many, xb⟩ ⟨errno, oad, on, ob⟩ = r at *
      obtain ⟨r1, r2⟩ := r
      have e2 : q2 = r2 := by rw [← hq2]; unfold Md.next; rw [if_pos hk, hst]
      have eaf := after_step hk hst
      subst e2
      simp only at hr2 ⊢
      cases q2 with
      | false =>
        rw [if_neg (by simp)] at eaf
        rw [eaf] at hr3 ⊢
        repeat' (first|refine Gi0 fun _=>?_|refine Gi1 ?_|refine CW.drawsS (id := 8) 6 [0,1,2,3,4,5,6,7,8,9] mixed (by kernel_rfl) ?_|refine CW.drawsS (id := 12) 6 [0,1,2,3,4,5,6,7,8,9,10] mixed (by kernel_rfl) ?_|refine Gi2 (fun _=>?_) fun _=>?_|refine Gi3 ?_|refine Gi4 fun _=>?_|fail)
        refine RW.call (num23 0 _) ?_
        rintro _ _ ⟨rfl, rfl⟩
        refine pinOld ?_
        repeat' (first|refine Gi0 fun _=>?_|refine Gi1 ?_|refine CW.drawsS (id := 8) 6 [0,1,2,3,4,5,6,7,8,9] mixed (by kernel_rfl) ?_|refine CW.drawsS (id := 12) 6 [0,1,2,3,4,5,6,7,8,9,10] mixed (by kernel_rfl) ?_|refine Gi2 (fun _=>?_) fun _=>?_|refine Gi3 ?_|refine Gi4 fun _=>?_|fail)
        refine bodyK.ret (Res.of2 Tryz.results8) ⟨_, b2, _, rfl, Pre.out, ?_, ?_⟩
        · refine MRest.to (hm := ⟨fun q hq => ?_⟩) hr3
          simp only [List.mem_append, List.mem_cons] at hq ⊢
          rcases hq with h | h <;> simp [h]
        · refine RL.to' (hm := ⟨fun q hq => ?_⟩) hl
          simp only [List.mem_append, List.mem_cons] at hq ⊢
          simp [hq]
      | true =>
        rw [if_pos rfl] at eaf
        obtain ⟨rfl, hrl⟩ := hr2 rfl
        simp only at eaf
        rw [eaf] at hr3 ⊢
        repeat' (first|refine Gi0 fun _=>?_|refine Gi1 ?_|refine CW.drawsS (id := 8) 6 [0,1,2,3,4,5,6,7,8,9] mixed (by kernel_rfl) ?_|refine CW.drawsS (id := 12) 6 [0,1,2,3,4,5,6,7,8,9,10] mixed (by kernel_rfl) ?_|refine Gi2 (fun _=>?_) fun _=>?_|refine Gi3 ?_|refine Gi4 fun _=>?_|fail)
        refine RW.call (num23 0 _) ?_
        rintro _ _ ⟨rfl, rfl⟩
        refine pinOld ?_
        repeat' (first|refine Gi0 fun _=>?_|refine Gi1 ?_|refine CW.drawsS (id := 8) 6 [0,1,2,3,4,5,6,7,8,9] mixed (by kernel_rfl) ?_|refine CW.drawsS (id := 12) 6 [0,1,2,3,4,5,6,7,8,9,10] mixed (by kernel_rfl) ?_|refine Gi2 (fun _=>?_) fun _=>?_|refine Gi3 ?_|refine Gi4 fun _=>?_|fail)
        refine bodyK.ret (Res.of2 Tryz.results8) ⟨_, b2, v2, rfl, Pre.out, ?_, ?_⟩
        · refine MRest.to (hm := ⟨fun q hq => ?_⟩) hr3
          simp only [List.mem_append, List.mem_cons] at hq ⊢
          rcases hq with h | h <;> simp [h]
        · refine RL.to' (hm := ⟨fun q hq => ?_⟩) hrl
          simp only [List.mem_append, List.mem_cons] at hq ⊢
          rcases hq with h | h <;> simp [h]
    · have e2 : q2 = false := by rw [← hq2]; unfold Md.next; rw [if_neg hk]
      have e3 : qe = 2 := by rw [← hqe]; unfold nextE; rw [if_neg hk]
      subst e2 e3
      rw [decide_eq_false hk]
      have eaf : after m ⟨kind, ad, size, mult, many, xb⟩ ⟨errno, oad, on, ob⟩ = m := after_bad hk
      rw [eaf] at hr3 ⊢
      repeat' (first|refine Gi0 fun _=>?_|refine Gi1 ?_|refine CW.drawsS (id := 8) 6 [0,1,2,3,4,5,6,7,8,9] mixed (by kernel_rfl) ?_|refine CW.drawsS (id := 12) 6 [0,1,2,3,4,5,6,7,8,9,10] mixed (by kernel_rfl) ?_|refine Gi2 (fun _=>?_) fun _=>?_|refine Gi3 ?_|refine Gi4 fun _=>?_|fail)
      refine RW.call (num23 2 _) ?_
      rintro _ _ ⟨rfl, rfl⟩
      refine pinOld ?_
      repeat' (first|refine Gi0 fun _=>?_|refine Gi1 ?_|refine CW.drawsS (id := 8) 6 [0,1,2,3,4,5,6,7,8,9] mixed (by kernel_rfl) ?_|refine CW.drawsS (id := 12) 6 [0,1,2,3,4,5,6,7,8,9,10] mixed (by kernel_rfl) ?_|refine Gi2 (fun _=>?_) fun _=>?_|refine Gi3 ?_|refine Gi4 fun _=>?_|fail)
      refine bodyK.ret (Res.of2 Tryz.results8) ⟨_, b2, _, rfl, Pre.out, ?_, ?_⟩
      · refine MRest.to (hm := ⟨fun q hq => ?_⟩) hr3
        simp only [List.mem_append, List.mem_cons] at hq ⊢
        rcases hq with h | h <;> simp [h]
      · refine RL.to' (hm := ⟨fun q hq => ?_⟩) hl
        simp only [List.mem_append, List.mem_cons] at hq ⊢
        simp [hq]
end Go.Proofs.YtocjgcmgkaabiaaGreat
