/-
  For every input the law ModelCopies returns true, and each argument reads behind the call as it read before. This text holds lemmas for it (part 7).
  Conditions: none.
-/
import Derived.Test.YtocjgcmgkaabiaaGreatMC2
import Derived.Sort.LotD4
set_option linter.all false
namespace Go.Proofs.YtocjgcmgkaabiaaGreat
open Go Go.Pw Go.Sort
set_option maxRecDepth 100000
set_option maxHeartbeats 4000000
set_option synthInstance.maxHeartbeats 400000
set_option synthInstance.maxSize 2000
attribute [local irreducible] CW OW RW thenK blockK
attribute [local irreducible] scopeK loopK TRW ATW

theorem isNaNU (x : Int) (L : Chunk) : Fn1 Tryz.prog 118 [.int .u32 x] L (fun u L' => u = .bool false ∧ L = L') := by
  intro w0; refine Spec.enter1 Tryz.func118 rfl Tryz.ntmps118 (by decide) ?_
  repeat' (first|refine Ga0 fun _=>?_|refine Ga1 ?_|refine Ga2 (fun _=>?_) fun _=>?_|refine Ga3 ?_|refine Ga4 fun _=>?_|fail)
  exact bodyK.retD L (Res.one Tryz.results118) ⟨rfl, rfl⟩
theorem lessU (x y : Int) (L : Chunk) : Fn1 Tryz.prog 95 [.int .u32 x, .int .u32 y] L (fun u L' => u = .bool (ltInt x y) ∧ L = L') := by
  intro w0; refine Spec.enter2 Tryz.func95 rfl Tryz.ntmps95 (by decide) ?_
  repeat' (first|refine Ga0 fun _=>?_|refine Ga1 ?_|refine Ga2 (fun _=>?_) fun _=>?_|refine Ga3 ?_|refine Ga4 fun _=>?_|fail)
  refine OW.call (isNaNU x _) ?_
  rintro _ _ ⟨rfl, rfl⟩
  unfold ltInt
  by_cases h : x < y
  · rw [decide_eq_true h]
    repeat' (first|refine Ga0 fun _=>?_|refine Ga1 ?_|refine Ga2 (fun _=>?_) fun _=>?_|refine Ga3 ?_|refine Ga4 fun _=>?_|fail)
    exact bodyK.retD L (Res.one Tryz.results95) ⟨rfl, rfl⟩
  · rw [decide_eq_false h]
    repeat' (first|refine Ga0 fun _=>?_|refine Ga1 ?_|refine Ga2 (fun _=>?_) fun _=>?_|refine Ga3 ?_|refine Ga4 fun _=>?_|fail)
    exact bodyK.retD L (Res.one Tryz.results95) ⟨rfl, rfl⟩

theorem insOuter_step {a b i : Nat} {d : Array Int} (h : i < b) : insOuter ltInt a b i d = insOuter ltInt a b (i + 1) (insInner ltInt a i d) := by
  rw [insOuter]; rw [if_pos h]
theorem insertionSortU (b cap m lo hi : Nat) (d : Array Int) (rest : List Value) (L : Chunk) (hd : Srt m d) (hlh : lo ≤ hi) (hhm : hi ≤ m) :
    Fn1 Tryz.prog 89 [.slice (some ⟨b, 0, none⟩) m cap, .int .i64 lo, .int .i64 hi] ((b, .cells (kvs .u32 d ++ rest).toArray 25 (0, 0)) :: L)
      (fun _ L' => L' = (b, .cells (kvs .u32 (insertionSort ltInt d lo hi) ++ rest).toArray 25 (0, 0)) :: L) := by
  intro w0; refine Spec.enter3 Tryz.func89 rfl Tryz.ntmps89 (by decide) ?_
  have hml := hd.len
  repeat' (first|refine Gi0 fun _=>?_|refine Gi1 ?_|refine CW.drawsP (id := 4) [0,1,2,3,4,5,6,7,8,9,10,11,12,13,14] mixed (by kernel_rfl) ?_|refine CW.drawsSw (id := 6) [0, 1, 2, 3, 4, 5, 6, 7, 8, 10, 11, 12] [9, 13] 14 [15, 16, 17] mixed (by kernel_rfl) ?_|refine Gi2 (fun _=>?_) fun _=>?_|refine Gi3 ?_|refine Gi4 fun _=>?_|fail)
  refine CW.loop (fun k ρ ds L' => ds = [] ∧ (∃ i d', L' = (b, .cells (kvs .u32 d' ++ rest).toArray 25 (0, 0)) :: L ∧ Srt m d' ∧ lo < i ∧ k = hi - i ∧ insOuter ltInt lo hi i d' = insertionSort ltInt d lo hi ∧ Ev ρ 6 (.int .i64 (i : Int))) ∧ Ev ρ 0 (.slice (some ⟨b, 0, none⟩) m cap) ∧ Ev ρ 1 (.int .i64 lo) ∧ Ev ρ 2 (.int .i64 hi)) (hi - (lo + 1))
    ⟨rfl, ⟨lo + 1, d, rfl, hd, by omega, rfl, rfl, by rw [Int.natCast_add]; infer_instance⟩, inferInstance, inferInstance, inferInstance⟩ ?_
  rintro k ρ ds L' ⟨rfl, ⟨i, d', rfl, hd', hi1, rfl, hfin, e6⟩, e0, e1, e2⟩
  by_cases hlt : i < hi
  · repeat' (first|refine Gi0 fun _=>?_|refine Gi1 ?_|refine CW.drawsP (id := 4) [0,1,2,3,4,5,6,7,8,9,10,11,12,13,14] mixed (by kernel_rfl) ?_|refine CW.drawsSw (id := 6) [0, 1, 2, 3, 4, 5, 6, 7, 8, 10, 11, 12] [9, 13] 14 [15, 16, 17] mixed (by kernel_rfl) ?_|refine Gi2 (fun _=>?_) fun _=>?_|refine Gi3 ?_|refine Gi4 fun _=>?_|fail)
    refine CW.loop (fun k ρ ds L' => ds = [] ∧ (∃ j d'', L' = (b, .cells (kvs .u32 d'' ++ rest).toArray 25 (0, 0)) :: L ∧ Srt m d'' ∧ j ≤ i ∧ j = k ∧ insInner ltInt lo j d'' = insInner ltInt lo i d' ∧ Ev ρ 7 (.int .i64 (j : Int))) ∧ Ev ρ 0 (.slice (some ⟨b, 0, none⟩) m cap) ∧ Ev ρ 1 (.int .i64 lo) ∧ Ev ρ 2 (.int .i64 hi) ∧ Ev ρ 6 (.int .i64 (i : Int))) i
      ⟨rfl, ⟨i, d', rfl, hd', by omega, rfl, rfl, inferInstance⟩, inferInstance, inferInstance, inferInstance, inferInstance⟩ ?_
    rintro k ρ ds L' ⟨rfl, ⟨j, d'', rfl, hd'', hj, rfl, hfj, e7⟩, e0, e1, e2, e6⟩
    by_cases hja : lo < j
    · obtain ⟨j, rfl⟩ : ∃ j', j = j' + 1 := ⟨j - 1, by omega⟩
      have l1 : LtS (j + 1) d''.size := ⟨by rw [hd''.size]; omega⟩
      have l2 : LtS j d''.size := ⟨by rw [hd''.size]; omega⟩
      have t1 : ToN (((j + 1 : Nat) : Int) - 1) j := ⟨by omega⟩
      repeat' (first|refine Gi0 fun _=>?_|refine Gi1 ?_|refine CW.drawsP (id := 4) [0,1,2,3,4,5,6,7,8,9,10,11,12,13,14] mixed (by kernel_rfl) ?_|refine CW.drawsSw (id := 6) [0, 1, 2, 3, 4, 5, 6, 7, 8, 10, 11, 12] [9, 13] 14 [15, 16, 17] mixed (by kernel_rfl) ?_|refine Gi2 (fun _=>?_) fun _=>?_|refine Gi3 ?_|refine Gi4 fun _=>?_|fail)
      refine RW.call (lessU _ _ _) ?_
      rintro _ _ ⟨rfl, rfl⟩
      refine pinAll ?_
      have hst := hfj
      rw [show insInner ltInt lo (j + 1) d'' = if j + 1 > lo && ltInt d''[j + 1]! d''[j]! then insInner ltInt lo j (swp d'' (j + 1) j) else d'' from rfl] at hst
      cases hc : ltInt d''[j + 1]! d''[j]! with
      | true =>
        rw [hc] at hst
        simp only [decide_eq_true hja, Bool.and_self, if_true, gt_iff_lt] at hst
        repeat' (first|refine Gi0 fun _=>?_|refine Gi1 ?_|refine CW.drawsP (id := 4) [0,1,2,3,4,5,6,7,8,9,10,11,12,13,14] mixed (by kernel_rfl) ?_|refine CW.drawsSw (id := 6) [0, 1, 2, 3, 4, 5, 6, 7, 8, 10, 11, 12] [9, 13] 14 [15, 16, 17] mixed (by kernel_rfl) ?_|refine Gi2 (fun _=>?_) fun _=>?_|refine Gi3 ?_|refine Gi4 fun _=>?_|fail)
        rw [show ((j + 1 : Nat) : Int) - 1 = (j : Int) by omega]
        exact ⟨j, by omega, rfl, ⟨j, swp d'' (j + 1) j, rfl, hd''.swp _ _, by omega, rfl, hst, inferInstance⟩, inferInstance, inferInstance, inferInstance, inferInstance⟩
      | false =>
        rw [hc] at hst
        simp only [Bool.and_false, Bool.false_eq_true, if_false] at hst
        subst hst
        repeat' (first|refine Gi0 fun _=>?_|refine Gi1 ?_|refine CW.drawsP (id := 4) [0,1,2,3,4,5,6,7,8,9,10,11,12,13,14] mixed (by kernel_rfl) ?_|refine CW.drawsSw (id := 6) [0, 1, 2, 3, 4, 5, 6, 7, 8, 10, 11, 12] [9, 13] 14 [15, 16, 17] mixed (by kernel_rfl) ?_|refine Gi2 (fun _=>?_) fun _=>?_|refine Gi3 ?_|refine Gi4 fun _=>?_|fail)
        exact ⟨hi - (i + 1), by omega, rfl, ⟨i + 1, _, rfl, hd'', by omega, rfl, by rw [← hfin]; rw [insOuter_step hlt], by rw [Int.natCast_add]; infer_instance⟩, inferInstance, inferInstance, inferInstance⟩
    · have hst : d'' = insInner ltInt lo i d' := by
        rw [← hfj]
        cases j with
        | zero => rfl
        | succ j => rw [show insInner ltInt lo (j + 1) d'' = if j + 1 > lo && ltInt d''[j + 1]! d''[j]! then insInner ltInt lo j (swp d'' (j + 1) j) else d'' from rfl, decide_eq_false (by omega)]; rfl
      subst hst
      repeat' (first|refine Gi0 fun _=>?_|refine Gi1 ?_|refine CW.drawsP (id := 4) [0,1,2,3,4,5,6,7,8,9,10,11,12,13,14] mixed (by kernel_rfl) ?_|refine CW.drawsSw (id := 6) [0, 1, 2, 3, 4, 5, 6, 7, 8, 10, 11, 12] [9, 13] 14 [15, 16, 17] mixed (by kernel_rfl) ?_|refine Gi2 (fun _=>?_) fun _=>?_|refine Gi3 ?_|refine Gi4 fun _=>?_|fail)
      exact ⟨hi - (i + 1), by omega, rfl, ⟨i + 1, _, rfl, hd'', by omega, rfl, by rw [← hfin]; rw [insOuter_step hlt], by rw [Int.natCast_add]; infer_instance⟩, inferInstance, inferInstance, inferInstance⟩
  · have hst : d' = insertionSort ltInt d lo hi := by
      rw [← hfin]; unfold insOuter; rw [if_neg hlt]
    repeat' (first|refine Gi0 fun _=>?_|refine Gi1 ?_|refine CW.drawsP (id := 4) [0,1,2,3,4,5,6,7,8,9,10,11,12,13,14] mixed (by kernel_rfl) ?_|refine CW.drawsSw (id := 6) [0, 1, 2, 3, 4, 5, 6, 7, 8, 10, 11, 12] [9, 13] 14 [15, 16, 17] mixed (by kernel_rfl) ?_|refine Gi2 (fun _=>?_) fun _=>?_|refine Gi3 ?_|refine Gi4 fun _=>?_|fail)
    exact bodyK.nrm (Res.zero Tryz.results89) (by rw [hst])
end Go.Proofs.YtocjgcmgkaabiaaGreat

namespace Go.Proofs.YtocjgcmgkaabiaaGreat
open Go Go.Pw Go.Sort
set_option maxRecDepth 100000
set_option maxHeartbeats 4000000
set_option synthInstance.maxHeartbeats 400000
set_option synthInstance.maxSize 2000
attribute [local irreducible] CW OW RW thenK blockK
attribute [local irreducible] scopeK loopK TRW ATW

theorem rev_step {i j : Nat} {d : Array Int} (h : i < j) : reverseLoop i j d = reverseLoop (i + 1) (j - 1) (swp d i j) := by rw [reverseLoop]; rw [if_pos h]
theorem rev_end {i j : Nat} {d : Array Int} (h : ¬ i < j) : reverseLoop i j d = d := by rw [reverseLoop]; rw [if_neg h]
theorem reverseRangeU (b cap m lo hi : Nat) (d : Array Int) (rest : List Value) (L : Chunk) (hd : Srt m d) (hlh : lo < hi) (hhm : hi ≤ m) :
    Fn1 Tryz.prog 93 [.slice (some ⟨b, 0, none⟩) m cap, .int .i64 lo, .int .i64 hi] ((b, .cells (kvs .u32 d ++ rest).toArray 25 (0, 0)) :: L)
      (fun _ L' => L' = (b, .cells (kvs .u32 (reverseRange d lo hi) ++ rest).toArray 25 (0, 0)) :: L) := by
  intro w0; refine Spec.enter3 Tryz.func93 rfl Tryz.ntmps93 (by decide) ?_
  have hml := hd.len
  obtain ⟨q, rfl⟩ : ∃ q, hi = q + 1 := ⟨hi - 1, by omega⟩
  repeat' (first|refine Gi0 fun _=>?_|refine Gi1 ?_|refine CW.drawsSw (id := 3) [0, 1, 2, 3, 4, 5, 6, 8, 9, 10] [7, 11] 12 [13, 14, 15] mixed (by kernel_rfl) ?_|refine Gi2 (fun _=>?_) fun _=>?_|refine Gi3 ?_|refine Gi4 fun _=>?_|fail)
  rw [show ((q + 1 : Nat) : Int) - 1 = (q : Int) by omega]
  repeat' (first|refine Gi0 fun _=>?_|refine Gi1 ?_|refine CW.drawsSw (id := 3) [0, 1, 2, 3, 4, 5, 6, 8, 9, 10] [7, 11] 12 [13, 14, 15] mixed (by kernel_rfl) ?_|refine Gi2 (fun _=>?_) fun _=>?_|refine Gi3 ?_|refine Gi4 fun _=>?_|fail)
  refine CW.loop (fun k ρ ds L' => ds = [] ∧ (∃ i j d', L' = (b, .cells (kvs .u32 d' ++ rest).toArray 25 (0, 0)) :: L ∧ Srt m d' ∧ j < m ∧ i ≤ m ∧ k = j + 1 - i ∧ reverseLoop i j d' = reverseLoop lo q d ∧ Ev ρ 6 (.int .i64 (i : Int)) ∧ Ev ρ 7 (.int .i64 (j : Int))) ∧ Ev ρ 0 (.slice (some ⟨b, 0, none⟩) m cap)) (q + 1 - lo)
    ⟨rfl, ⟨lo, q, d, rfl, hd, by omega, by omega, rfl, rfl, inferInstance, inferInstance⟩, inferInstance⟩ ?_
  rintro k ρ ds L' ⟨rfl, ⟨i, j, d', rfl, hd', hj, hi, rfl, hfin, e6, e7⟩, e0⟩
  by_cases hlt : i < j
  · rw [rev_step hlt] at hfin
    have l1 : LtS i d'.size := ⟨by rw [hd'.size]; omega⟩
    have l2 : LtS j d'.size := ⟨by rw [hd'.size]; omega⟩
    repeat' (first|refine Gi0 fun _=>?_|refine Gi1 ?_|refine CW.drawsSw (id := 3) [0, 1, 2, 3, 4, 5, 6, 8, 9, 10] [7, 11] 12 [13, 14, 15] mixed (by kernel_rfl) ?_|refine Gi2 (fun _=>?_) fun _=>?_|refine Gi3 ?_|refine Gi4 fun _=>?_|fail)
    rw [show (i : Int) + 1 = ((i + 1 : Nat) : Int) by omega, show (j : Int) - 1 = ((j - 1 : Nat) : Int) by omega]
    exact ⟨j - 1 + 1 - (i + 1), by omega, rfl, ⟨i + 1, j - 1, swp d' i j, rfl, hd'.swp _ _, by omega, by omega, rfl, hfin, inferInstance, inferInstance⟩, inferInstance⟩
  · rw [rev_end hlt] at hfin
    repeat' (first|refine Gi0 fun _=>?_|refine Gi1 ?_|refine CW.drawsSw (id := 3) [0, 1, 2, 3, 4, 5, 6, 8, 9, 10] [7, 11] 12 [13, 14, 15] mixed (by kernel_rfl) ?_|refine Gi2 (fun _=>?_) fun _=>?_|refine Gi3 ?_|refine Gi4 fun _=>?_|fail)
    exact bodyK.nrm (Res.zero Tryz.results93) (by rw [hfin]; rfl)

theorem sift_end {hi first root : Nat} {d : Array Int} (h : hi ≤ 2 * root + 1) : siftDown ltInt hi first root d = d := by rw [siftDown]; rw [dif_pos h]
theorem sift_two {hi first root : Nat} {d : Array Int} (h : 2 * root + 1 < hi) (h2 : 2 * root + 1 + 1 < hi) (hl : ltInt d[first + (2 * root + 1)]! d[first + (2 * root + 1) + 1]! = true) :
    siftDown ltInt hi first root d = if ltInt d[first + root]! d[first + (2 * root + 2)]! then siftDown ltInt hi first (2 * root + 2) (swp d (first + root) (first + (2 * root + 2))) else d := by
  rw [siftDown]
  rw [dif_neg (by omega), if_pos (by rw [decide_eq_true h2, hl]; rfl)]
  cases ltInt d[first + root]! d[first + (2 * root + 2)]!
  · rfl
  · simp only [Bool.not_true, Bool.false_eq_true, if_false, if_true]
    rw [dif_pos (by omega)]
theorem sift_one {hi first root : Nat} {d : Array Int} (h : 2 * root + 1 < hi) (h2 : ¬ (2 * root + 1 + 1 < hi ∧ ltInt d[first + (2 * root + 1)]! d[first + (2 * root + 1) + 1]! = true)) :
    siftDown ltInt hi first root d = if ltInt d[first + root]! d[first + (2 * root + 1)]! then siftDown ltInt hi first (2 * root + 1) (swp d (first + root) (first + (2 * root + 1))) else d := by
  rw [siftDown]
  rw [dif_neg (by omega), if_neg (by simpa using h2)]
  cases ltInt d[first + root]! d[first + (2 * root + 1)]! <;> rfl

theorem siftDownU (b cap m lo hi first : Nat) (d : Array Int) (rest : List Value) (L : Chunk) (hd : Srt m d) (hhm : first + hi ≤ m) (hlo : lo ≤ m) :
    Fn1 Tryz.prog 113 [.slice (some ⟨b, 0, none⟩) m cap, .int .i64 lo, .int .i64 hi, .int .i64 first] ((b, .cells (kvs .u32 d ++ rest).toArray 25 (0, 0)) :: L)
      (fun _ L' => L' = (b, .cells (kvs .u32 (siftDown ltInt hi first lo d) ++ rest).toArray 25 (0, 0)) :: L) := by
  intro w0; refine Spec.enter4 Tryz.func113 rfl Tryz.ntmps113 (by decide) ?_
  have hml := hd.len
  repeat' (first|refine Gi0 fun _=>?_|refine Gi1 ?_|refine CW.drawsP (id := 3) [0,1,2,3,4,5,6,7,8,9,10,11,12,13,14,15,16,17,18,19] mixed (by kernel_rfl) ?_|refine CW.drawsP (id := 5) [0,1,2,3,4,5,6,7,8,9,10,11,12,13] mixed (by kernel_rfl) ?_|refine CW.drawsSw (id := 6) [0, 1, 2, 3, 4, 5, 6, 7, 8, 9, 10, 11, 12, 14, 15, 16, 17, 18] [13, 19] 20 [21, 22, 23] mixed (by kernel_rfl) ?_|refine Gi2 (fun _=>?_) fun _=>?_|refine Gi3 ?_|refine Gi4 fun _=>?_|fail)
  refine CW.loop (fun k ρ ds L' => ds = [] ∧ (∃ r d', L' = (b, .cells (kvs .u32 d' ++ rest).toArray 25 (0, 0)) :: L ∧ Srt m d' ∧ r ≤ m ∧ k = m - r ∧ siftDown ltInt hi first r d' = siftDown ltInt hi first lo d ∧ Ev ρ 8 (.int .i64 (r : Int))) ∧ Ev ρ 0 (.slice (some ⟨b, 0, none⟩) m cap) ∧ Ev ρ 2 (.int .i64 hi) ∧ Ev ρ 3 (.int .i64 first)) (m - lo)
    ⟨rfl, ⟨lo, d, rfl, hd, hlo, rfl, rfl, inferInstance⟩, inferInstance, inferInstance, inferInstance⟩ ?_
  rintro k ρ ds L' ⟨rfl, ⟨r, d', rfl, hd', hrm, rfl, hfin, e8⟩, e0, e2, e3⟩
  by_cases hlt : 2 * r + 1 < hi
  · have l1 : LtS (first + (2 * r + 1)) d'.size := ⟨by rw [hd'.size]; omega⟩
    have l3 : LtS (first + r) d'.size := ⟨by rw [hd'.size]; omega⟩
    have t1 : ToN ((first : Int) + (2 * (r : Int) + 1)) (first + (2 * r + 1)) := ⟨by omega⟩
    have t2 : ToN ((first : Int) + (2 * (r : Int) + 1) + 1) (first + (2 * r + 1) + 1) := ⟨by omega⟩
    have t3 : ToN ((first : Int) + (r : Int)) (first + r) := ⟨by omega⟩
    have t4 : ToN ((first : Int) + (2 * (r : Int) + 1 + 1)) (first + (2 * r + 2)) := ⟨by omega⟩
    by_cases h2 : 2 * r + 1 + 1 < hi
    · have l2 : LtS (first + (2 * r + 1) + 1) d'.size := ⟨by rw [hd'.size]; omega⟩
      have l4 : LtS (first + (2 * r + 2)) d'.size := ⟨by rw [hd'.size]; omega⟩
      repeat' (first|refine Gi0 fun _=>?_|refine Gi1 ?_|refine CW.drawsP (id := 3) [0,1,2,3,4,5,6,7,8,9,10,11,12,13,14,15,16,17,18,19] mixed (by kernel_rfl) ?_|refine CW.drawsP (id := 5) [0,1,2,3,4,5,6,7,8,9,10,11,12,13] mixed (by kernel_rfl) ?_|refine CW.drawsSw (id := 6) [0, 1, 2, 3, 4, 5, 6, 7, 8, 9, 10, 11, 12, 14, 15, 16, 17, 18] [13, 19] 20 [21, 22, 23] mixed (by kernel_rfl) ?_|refine Gi2 (fun _=>?_) fun _=>?_|refine Gi3 ?_|refine Gi4 fun _=>?_|fail)
      refine RW.call (lessU _ _ _) ?_
      rintro _ _ ⟨rfl, rfl⟩
      refine pinAll ?_
      cases hc : ltInt d'[first + (2 * r + 1)]! d'[first + (2 * r + 1) + 1]! with
      | true =>
        rw [sift_two hlt h2 hc] at hfin
        repeat' (first|refine Gi0 fun _=>?_|refine Gi1 ?_|refine CW.drawsP (id := 3) [0,1,2,3,4,5,6,7,8,9,10,11,12,13,14,15,16,17,18,19] mixed (by kernel_rfl) ?_|refine CW.drawsP (id := 5) [0,1,2,3,4,5,6,7,8,9,10,11,12,13] mixed (by kernel_rfl) ?_|refine CW.drawsSw (id := 6) [0, 1, 2, 3, 4, 5, 6, 7, 8, 9, 10, 11, 12, 14, 15, 16, 17, 18] [13, 19] 20 [21, 22, 23] mixed (by kernel_rfl) ?_|refine Gi2 (fun _=>?_) fun _=>?_|refine Gi3 ?_|refine Gi4 fun _=>?_|fail)
        refine RW.call (lessU _ _ _) ?_
        rintro _ _ ⟨rfl, rfl⟩
        refine pinAll ?_
        cases hc2 : ltInt d'[first + r]! d'[first + (2 * r + 2)]! with
        | true =>
          rw [hc2, if_pos rfl] at hfin
          repeat' (first|refine Gi0 fun _=>?_|refine Gi1 ?_|refine CW.drawsP (id := 3) [0,1,2,3,4,5,6,7,8,9,10,11,12,13,14,15,16,17,18,19] mixed (by kernel_rfl) ?_|refine CW.drawsP (id := 5) [0,1,2,3,4,5,6,7,8,9,10,11,12,13] mixed (by kernel_rfl) ?_|refine CW.drawsSw (id := 6) [0, 1, 2, 3, 4, 5, 6, 7, 8, 9, 10, 11, 12, 14, 15, 16, 17, 18] [13, 19] 20 [21, 22, 23] mixed (by kernel_rfl) ?_|refine Gi2 (fun _=>?_) fun _=>?_|refine Gi3 ?_|refine Gi4 fun _=>?_|fail)
          exact ⟨m - (2 * r + 2), by omega, rfl, ⟨2 * r + 2, swp d' (first + r) (first + (2 * r + 2)), rfl, hd'.swp _ _, by omega, rfl, hfin, by rw [show ((2 * r + 2 : Nat) : Int) = 2 * (r : Int) + 1 + 1 by omega]; infer_instance⟩, inferInstance, inferInstance, inferInstance⟩
        | false =>
          rw [hc2] at hfin
          simp only [Bool.false_eq_true, if_false] at hfin
          repeat' (first|refine Gi0 fun _=>?_|refine Gi1 ?_|refine CW.drawsP (id := 3) [0,1,2,3,4,5,6,7,8,9,10,11,12,13,14,15,16,17,18,19] mixed (by kernel_rfl) ?_|refine CW.drawsP (id := 5) [0,1,2,3,4,5,6,7,8,9,10,11,12,13] mixed (by kernel_rfl) ?_|refine CW.drawsSw (id := 6) [0, 1, 2, 3, 4, 5, 6, 7, 8, 9, 10, 11, 12, 14, 15, 16, 17, 18] [13, 19] 20 [21, 22, 23] mixed (by kernel_rfl) ?_|refine Gi2 (fun _=>?_) fun _=>?_|refine Gi3 ?_|refine Gi4 fun _=>?_|fail)
          exact bodyK.ret (Res.zero Tryz.results113) (by rw [hfin])
      | false =>
        rw [sift_one hlt (by rw [hc]; simp)] at hfin
        repeat' (first|refine Gi0 fun _=>?_|refine Gi1 ?_|refine CW.drawsP (id := 3) [0,1,2,3,4,5,6,7,8,9,10,11,12,13,14,15,16,17,18,19] mixed (by kernel_rfl) ?_|refine CW.drawsP (id := 5) [0,1,2,3,4,5,6,7,8,9,10,11,12,13] mixed (by kernel_rfl) ?_|refine CW.drawsSw (id := 6) [0, 1, 2, 3, 4, 5, 6, 7, 8, 9, 10, 11, 12, 14, 15, 16, 17, 18] [13, 19] 20 [21, 22, 23] mixed (by kernel_rfl) ?_|refine Gi2 (fun _=>?_) fun _=>?_|refine Gi3 ?_|refine Gi4 fun _=>?_|fail)
        refine RW.call (lessU _ _ _) ?_
        rintro _ _ ⟨rfl, rfl⟩
        refine pinAll ?_
        cases hc2 : ltInt d'[first + r]! d'[first + (2 * r + 1)]! with
        | true =>
          rw [hc2, if_pos rfl] at hfin
          repeat' (first|refine Gi0 fun _=>?_|refine Gi1 ?_|refine CW.drawsP (id := 3) [0,1,2,3,4,5,6,7,8,9,10,11,12,13,14,15,16,17,18,19] mixed (by kernel_rfl) ?_|refine CW.drawsP (id := 5) [0,1,2,3,4,5,6,7,8,9,10,11,12,13] mixed (by kernel_rfl) ?_|refine CW.drawsSw (id := 6) [0, 1, 2, 3, 4, 5, 6, 7, 8, 9, 10, 11, 12, 14, 15, 16, 17, 18] [13, 19] 20 [21, 22, 23] mixed (by kernel_rfl) ?_|refine Gi2 (fun _=>?_) fun _=>?_|refine Gi3 ?_|refine Gi4 fun _=>?_|fail)
          exact ⟨m - (2 * r + 1), by omega, rfl, ⟨2 * r + 1, swp d' (first + r) (first + (2 * r + 1)), rfl, hd'.swp _ _, by omega, rfl, hfin, by rw [show ((2 * r + 1 : Nat) : Int) = 2 * (r : Int) + 1 by omega]; infer_instance⟩, inferInstance, inferInstance, inferInstance⟩
        | false =>
          rw [hc2] at hfin
          simp only [Bool.false_eq_true, if_false] at hfin
          repeat' (first|refine Gi0 fun _=>?_|refine Gi1 ?_|refine CW.drawsP (id := 3) [0,1,2,3,4,5,6,7,8,9,10,11,12,13,14,15,16,17,18,19] mixed (by kernel_rfl) ?_|refine CW.drawsP (id := 5) [0,1,2,3,4,5,6,7,8,9,10,11,12,13] mixed (by kernel_rfl) ?_|refine CW.drawsSw (id := 6) [0, 1, 2, 3, 4, 5, 6, 7, 8, 9, 10, 11, 12, 14, 15, 16, 17, 18] [13, 19] 20 [21, 22, 23] mixed (by kernel_rfl) ?_|refine Gi2 (fun _=>?_) fun _=>?_|refine Gi3 ?_|refine Gi4 fun _=>?_|fail)
          exact bodyK.ret (Res.zero Tryz.results113) (by rw [hfin])
    · rw [sift_one hlt (fun h => h2 h.1)] at hfin
      repeat' (first|refine Gi0 fun _=>?_|refine Gi1 ?_|refine CW.drawsP (id := 3) [0,1,2,3,4,5,6,7,8,9,10,11,12,13,14,15,16,17,18,19] mixed (by kernel_rfl) ?_|refine CW.drawsP (id := 5) [0,1,2,3,4,5,6,7,8,9,10,11,12,13] mixed (by kernel_rfl) ?_|refine CW.drawsSw (id := 6) [0, 1, 2, 3, 4, 5, 6, 7, 8, 9, 10, 11, 12, 14, 15, 16, 17, 18] [13, 19] 20 [21, 22, 23] mixed (by kernel_rfl) ?_|refine Gi2 (fun _=>?_) fun _=>?_|refine Gi3 ?_|refine Gi4 fun _=>?_|fail)
      refine RW.call (lessU _ _ _) ?_
      rintro _ _ ⟨rfl, rfl⟩
      refine pinAll ?_
      cases hc2 : ltInt d'[first + r]! d'[first + (2 * r + 1)]! with
      | true =>
        rw [hc2, if_pos rfl] at hfin
        repeat' (first|refine Gi0 fun _=>?_|refine Gi1 ?_|refine CW.drawsP (id := 3) [0,1,2,3,4,5,6,7,8,9,10,11,12,13,14,15,16,17,18,19] mixed (by kernel_rfl) ?_|refine CW.drawsP (id := 5) [0,1,2,3,4,5,6,7,8,9,10,11,12,13] mixed (by kernel_rfl) ?_|refine CW.drawsSw (id := 6) [0, 1, 2, 3, 4, 5, 6, 7, 8, 9, 10, 11, 12, 14, 15, 16, 17, 18] [13, 19] 20 [21, 22, 23] mixed (by kernel_rfl) ?_|refine Gi2 (fun _=>?_) fun _=>?_|refine Gi3 ?_|refine Gi4 fun _=>?_|fail)
        exact ⟨m - (2 * r + 1), by omega, rfl, ⟨2 * r + 1, swp d' (first + r) (first + (2 * r + 1)), rfl, hd'.swp _ _, by omega, rfl, hfin, by rw [show ((2 * r + 1 : Nat) : Int) = 2 * (r : Int) + 1 by omega]; infer_instance⟩, inferInstance, inferInstance, inferInstance⟩
      | false =>
        rw [hc2] at hfin
        simp only [Bool.false_eq_true, if_false] at hfin
        repeat' (first|refine Gi0 fun _=>?_|refine Gi1 ?_|refine CW.drawsP (id := 3) [0,1,2,3,4,5,6,7,8,9,10,11,12,13,14,15,16,17,18,19] mixed (by kernel_rfl) ?_|refine CW.drawsP (id := 5) [0,1,2,3,4,5,6,7,8,9,10,11,12,13] mixed (by kernel_rfl) ?_|refine CW.drawsSw (id := 6) [0, 1, 2, 3, 4, 5, 6, 7, 8, 9, 10, 11, 12, 14, 15, 16, 17, 18] [13, 19] 20 [21, 22, 23] mixed (by kernel_rfl) ?_|refine Gi2 (fun _=>?_) fun _=>?_|refine Gi3 ?_|refine Gi4 fun _=>?_|fail)
        exact bodyK.ret (Res.zero Tryz.results113) (by rw [hfin])
  · rw [sift_end (by omega)] at hfin
    repeat' (first|refine Gi0 fun _=>?_|refine Gi1 ?_|refine CW.drawsP (id := 3) [0,1,2,3,4,5,6,7,8,9,10,11,12,13,14,15,16,17,18,19] mixed (by kernel_rfl) ?_|refine CW.drawsP (id := 5) [0,1,2,3,4,5,6,7,8,9,10,11,12,13] mixed (by kernel_rfl) ?_|refine CW.drawsSw (id := 6) [0, 1, 2, 3, 4, 5, 6, 7, 8, 9, 10, 11, 12, 14, 15, 16, 17, 18] [13, 19] 20 [21, 22, 23] mixed (by kernel_rfl) ?_|refine Gi2 (fun _=>?_) fun _=>?_|refine Gi3 ?_|refine Gi4 fun _=>?_|fail)
    exact bodyK.nrm (Res.zero Tryz.results113) (by rw [hfin])
end Go.Proofs.YtocjgcmgkaabiaaGreat

namespace Go.Proofs.YtocjgcmgkaabiaaGreat
open Go Go.Pw Go.Sort
set_option maxRecDepth 100000
set_option maxHeartbeats 4000000
set_option synthInstance.maxHeartbeats 400000
set_option synthInstance.maxSize 2000
attribute [local irreducible] CW OW RW thenK blockK
attribute [local irreducible] scopeK loopK TRW ATW

theorem sift_size {hi first : Nat} : ∀ (n root : Nat) (d : Array Int), hi - root ≤ n → (siftDown ltInt hi first root d).size = d.size
  | 0, root, d, h => by rw [sift_end (by omega)]
  | n + 1, root, d, h => by
    by_cases h1 : 2 * root + 1 < hi
    · by_cases h2 : 2 * root + 1 + 1 < hi ∧ ltInt d[first + (2 * root + 1)]! d[first + (2 * root + 1) + 1]! = true
      · rw [sift_two h1 h2.1 h2.2]
        split
        · rw [sift_size n _ _ (by omega), size_swp]
        · rfl
      · rw [sift_one h1 h2]
        split
        · rw [sift_size n _ _ (by omega), size_swp]
        · rfl
    · rw [sift_end (by omega)]
theorem siftS {m hi first root : Nat} {d : Array Int} (h : Srt m d) : Srt m (siftDown ltInt hi first root d) := ⟨by rw [sift_size _ _ _ (Nat.le_refl _)]; exact h.size, h.len⟩
theorem heapSortU (b cap m lo hi : Nat) (d : Array Int) (rest : List Value) (L : Chunk) (hd : Srt m d) (hlh : lo < hi) (hhm : hi ≤ m) :
    Fn1 Tryz.prog 90 [.slice (some ⟨b, 0, none⟩) m cap, .int .i64 lo, .int .i64 hi] ((b, .cells (kvs .u32 d ++ rest).toArray 25 (0, 0)) :: L)
      (fun _ L' => L' = (b, .cells (kvs .u32 (heapSort ltInt d lo hi) ++ rest).toArray 25 (0, 0)) :: L) := by
  intro w0; refine Spec.enter3 Tryz.func90 rfl Tryz.ntmps90 (by decide) ?_
  have hml := hd.len
  obtain ⟨l, rfl⟩ : ∃ l, hi = lo + l + 1 := ⟨hi - lo - 1, by omega⟩
  repeat' (first|refine Gj0 fun _=>?_|refine Gj1 ?_|refine CW.drawsSw (id := 10) [0, 1, 2, 3, 4, 5, 6, 7, 8, 9, 10, 12, 13, 14] [11, 15] 16 [17, 18, 19] mixed (by kernel_rfl) ?_|refine Gj2 (fun _=>?_) fun _=>?_|refine Gj3 ?_|refine Gj4 fun _=>?_|fail)
  rw [show ((lo + l + 1 : Nat) : Int) - (lo : Int) - 1 = ((l : Nat) : Int) by omega, show ((lo + l + 1 : Nat) : Int) - (lo : Int) = ((l + 1 : Nat) : Int) by omega, show ((l : Nat) : Int) / 2 = ((l / 2 : Nat) : Int) by omega]
  have hfin0 : heapSort ltInt d lo (lo + l + 1) = heapPop ltInt lo (l + 1) (heapBuild ltInt (l + 1) lo (l / 2 + 1) d) := by
    unfold heapSort
    rw [show lo + l + 1 - lo = l + 1 by omega, Nat.add_sub_cancel]
  rw [hfin0]
  clear hfin0
  repeat' (first|refine Gj0 fun _=>?_|refine Gj1 ?_|refine CW.drawsSw (id := 10) [0, 1, 2, 3, 4, 5, 6, 7, 8, 9, 10, 12, 13, 14] [11, 15] 16 [17, 18, 19] mixed (by kernel_rfl) ?_|refine Gj2 (fun _=>?_) fun _=>?_|refine Gj3 ?_|refine Gj4 fun _=>?_|fail)
  refine CW.loop (fun k ρ ds L' => ds = [] ∧ (∃ d', L' = (b, .cells (kvs .u32 d' ++ rest).toArray 25 (0, 0)) :: L ∧ Srt m d' ∧ k ≤ l / 2 + 1 ∧ heapBuild ltInt (l + 1) lo k d' = heapBuild ltInt (l + 1) lo (l / 2 + 1) d) ∧ Ev ρ 9 (.int .i64 ((k : Int) - 1)) ∧ Ev ρ 0 (.slice (some ⟨b, 0, none⟩) m cap) ∧ Ev ρ 6 (.int .i64 lo) ∧ Ev ρ 7 (.int .i64 0) ∧ Ev ρ 8 (.int .i64 ((l + 1 : Nat) : Int))) (l / 2 + 1)
    ⟨rfl, ⟨d, rfl, hd, Nat.le_refl _, rfl⟩, by rw [show ((l / 2 + 1 : Nat) : Int) - 1 = ((l / 2 : Nat) : Int) by omega]; infer_instance, inferInstance, inferInstance, inferInstance, inferInstance⟩ ?_
  rintro k ρ ds L' ⟨rfl, ⟨d', rfl, hd', hk, hfin⟩, e9, e0, e6, e7, e8⟩
  cases k with
  | succ k =>
    rw [show ((k + 1 : Nat) : Int) - 1 = (k : Int) by omega] at e9
    repeat' (first|refine Gj0 fun _=>?_|refine Gj1 ?_|refine CW.drawsSw (id := 10) [0, 1, 2, 3, 4, 5, 6, 7, 8, 9, 10, 12, 13, 14] [11, 15] 16 [17, 18, 19] mixed (by kernel_rfl) ?_|refine Gj2 (fun _=>?_) fun _=>?_|refine Gj3 ?_|refine Gj4 fun _=>?_|fail)
    refine OW.call (siftDownU b cap m k (l + 1) lo d' rest L hd' (by omega) (by omega)) ?_
    rintro _ _ rfl
    repeat' (first|refine Gj0 fun _=>?_|refine Gj1 ?_|refine CW.drawsSw (id := 10) [0, 1, 2, 3, 4, 5, 6, 7, 8, 9, 10, 12, 13, 14] [11, 15] 16 [17, 18, 19] mixed (by kernel_rfl) ?_|refine Gj2 (fun _=>?_) fun _=>?_|refine Gj3 ?_|refine Gj4 fun _=>?_|fail)
    exact ⟨k, by omega, rfl, ⟨_, rfl, siftS hd', by omega, hfin⟩, inferInstance, inferInstance, inferInstance, inferInstance, inferInstance⟩
  | zero =>
    rw [← hfin]
    rw [show ((0 : Nat) : Int) - 1 = -1 by omega] at e9
    repeat' (first|refine Gj0 fun _=>?_|refine Gj1 ?_|refine CW.drawsSw (id := 10) [0, 1, 2, 3, 4, 5, 6, 7, 8, 9, 10, 12, 13, 14] [11, 15] 16 [17, 18, 19] mixed (by kernel_rfl) ?_|refine Gj2 (fun _=>?_) fun _=>?_|refine Gj3 ?_|refine Gj4 fun _=>?_|fail)
    rw [show ((l + 1 : Nat) : Int) - 1 = (l : Int) by omega]
    refine CW.loop (fun k ρ ds L' => ds = [] ∧ (∃ d'', L' = (b, .cells (kvs .u32 d'' ++ rest).toArray 25 (0, 0)) :: L ∧ Srt m d'' ∧ k ≤ l + 1 ∧ heapPop ltInt lo k d'' = heapPop ltInt lo (l + 1) d') ∧ Ev ρ 10 (.int .i64 ((k : Int) - 1)) ∧ Ev ρ 0 (.slice (some ⟨b, 0, none⟩) m cap) ∧ Ev ρ 6 (.int .i64 lo) ∧ Ev ρ 7 (.int .i64 0) ∧ Ev ρ 8 (.int .i64 ((l + 1 : Nat) : Int))) (l + 1)
      ⟨rfl, ⟨d', rfl, hd', Nat.le_refl _, rfl⟩, by rw [show ((l + 1 : Nat) : Int) - 1 = (l : Int) by omega]; infer_instance, inferInstance, inferInstance, inferInstance, inferInstance⟩ ?_
    rintro k ρ ds L' ⟨rfl, ⟨d'', rfl, hd'', hk, hfin2⟩, e10, e0, e6, e7, e8⟩
    cases k with
    | succ k =>
      rw [show ((k + 1 : Nat) : Int) - 1 = (k : Int) by omega] at e10
      have l1 : LtS lo d''.size := ⟨by rw [hd''.size]; omega⟩
      have l2 : LtS (lo + k) d''.size := ⟨by rw [hd''.size]; omega⟩
      have t1 : ToN ((lo : Int) + (k : Int)) (lo + k) := ⟨by omega⟩
      repeat' (first|refine Gj0 fun _=>?_|refine Gj1 ?_|refine CW.drawsSw (id := 10) [0, 1, 2, 3, 4, 5, 6, 7, 8, 9, 10, 12, 13, 14] [11, 15] 16 [17, 18, 19] mixed (by kernel_rfl) ?_|refine Gj2 (fun _=>?_) fun _=>?_|refine Gj3 ?_|refine Gj4 fun _=>?_|fail)
      refine OW.call (siftDownU b cap m 0 k lo (swp d'' lo (lo + k)) rest L (hd''.swp _ _) (by omega) (by omega)) ?_
      rintro _ _ rfl
      repeat' (first|refine Gj0 fun _=>?_|refine Gj1 ?_|refine CW.drawsSw (id := 10) [0, 1, 2, 3, 4, 5, 6, 7, 8, 9, 10, 12, 13, 14] [11, 15] 16 [17, 18, 19] mixed (by kernel_rfl) ?_|refine Gj2 (fun _=>?_) fun _=>?_|refine Gj3 ?_|refine Gj4 fun _=>?_|fail)
      exact ⟨k, by omega, rfl, ⟨_, rfl, siftS (hd''.swp _ _), by omega, hfin2⟩, inferInstance, inferInstance, inferInstance, inferInstance, inferInstance⟩
    | zero =>
      rw [show ((0 : Nat) : Int) - 1 = -1 by omega] at e10
      repeat' (first|refine Gj0 fun _=>?_|refine Gj1 ?_|refine CW.drawsSw (id := 10) [0, 1, 2, 3, 4, 5, 6, 7, 8, 9, 10, 12, 13, 14] [11, 15] 16 [17, 18, 19] mixed (by kernel_rfl) ?_|refine Gj2 (fun _=>?_) fun _=>?_|refine Gj3 ?_|refine Gj4 fun _=>?_|fail)
      refine bodyK.nrm (Res.zero Tryz.results90) ?_
      rw [show heapPop ltInt lo (l + 1) (heapBuild ltInt (l + 1) lo 0 d') = heapPop ltInt lo (l + 1) d' from rfl, ← hfin2]
      rfl
end Go.Proofs.YtocjgcmgkaabiaaGreat

namespace Go.Proofs.YtocjgcmgkaabiaaGreat
open Go Go.Pw Go.Sort
set_option maxRecDepth 100000
set_option maxHeartbeats 4000000
set_option synthInstance.maxHeartbeats 400000
set_option synthInstance.maxSize 2000
attribute [local irreducible] CW OW RW thenK blockK
attribute [local irreducible] scopeK loopK TRW ATW

theorem order2U (b bs cap m x y s : Nat) (d : Array Int) (rest : List Value) (L : Chunk) (hd : Srt m d) (hx : x < m) (hy : y < m) (hs : s ≤ 1000) [hb : InC L b (.cells (kvs .u32 d ++ rest).toArray 25 (0, 0))] :
    Fn1 Tryz.prog 137 [.slice (some ⟨b, 0, none⟩) m cap, .int .i64 x, .int .i64 y, .pointer (some ⟨bs, 0, none⟩)] ((bs, .cells #[.int .i64 s] 3 (0, 0)) :: L)
      (fun u L' => u = .tuple #[.int .i64 (order2 ltInt d x y s).1, .int .i64 (order2 ltInt d x y s).2.1] ∧ L' = (bs, .cells #[.int .i64 (order2 ltInt d x y s).2.2] 3 (0, 0)) :: L) := by
  intro w0; refine Spec.enter4 Tryz.func137 rfl Tryz.ntmps137 (by decide) ?_
  have hb' := hb
  have hml := hd.len
  have l1 : LtS x d.size := ⟨by rw [hd.size]; omega⟩
  have l2 : LtS y d.size := ⟨by rw [hd.size]; omega⟩
  repeat' (first|refine Gi0 fun _=>?_|refine Gi1 ?_|refine CW.drawsP (id := 1) [0,1,2,3,4,5,6,7,8] mixed (by kernel_rfl) ?_|refine Gi2 (fun _=>?_) fun _=>?_|refine Gi3 ?_|refine Gi4 fun _=>?_|fail)
  refine RW.call (lessU _ _ _) ?_
  rintro _ _ ⟨rfl, rfl⟩
  refine pinAll ?_
  unfold order2
  cases hc : ltInt d[y]! d[x]! with
  | true =>
    rw [if_pos rfl]
    repeat' (first|refine Gi0 fun _=>?_|refine Gi1 ?_|refine CW.drawsP (id := 1) [0,1,2,3,4,5,6,7,8] mixed (by kernel_rfl) ?_|refine Gi2 (fun _=>?_) fun _=>?_|refine Gi3 ?_|refine Gi4 fun _=>?_|fail)
    exact bodyK.ret (Res.two Tryz.results137) ⟨rfl, rfl⟩
  | false =>
    rw [if_neg (by simp)]
    repeat' (first|refine Gi0 fun _=>?_|refine Gi1 ?_|refine CW.drawsP (id := 1) [0,1,2,3,4,5,6,7,8] mixed (by kernel_rfl) ?_|refine Gi2 (fun _=>?_) fun _=>?_|refine Gi3 ?_|refine Gi4 fun _=>?_|fail)
    exact bodyK.ret (Res.two Tryz.results137) ⟨rfl, rfl⟩
theorem order2_lt {d : Array Int} {x y s m : Nat} (hx : x < m) (hy : y < m) : (order2 ltInt d x y s).1 < m ∧ (order2 ltInt d x y s).2.1 < m ∧ (order2 ltInt d x y s).2.2 ≤ s + 1 := by
  unfold order2; split <;> simp <;> omega
theorem medianU (b bs cap m x y z s : Nat) (d : Array Int) (rest : List Value) (L : Chunk) (hd : Srt m d) (hx : x < m) (hy : y < m) (hz : z < m) (hs : s ≤ 900) [hb : InC L b (.cells (kvs .u32 d ++ rest).toArray 25 (0, 0))] :
    Fn1 Tryz.prog 117 [.slice (some ⟨b, 0, none⟩) m cap, .int .i64 x, .int .i64 y, .int .i64 z, .pointer (some ⟨bs, 0, none⟩)] ((bs, .cells #[.int .i64 s] 3 (0, 0)) :: L)
      (fun u L' => u = .int .i64 (median ltInt d x y z s).1 ∧ L' = (bs, .cells #[.int .i64 (median ltInt d x y z s).2] 3 (0, 0)) :: L) := by
  intro w0; refine Spec.enter5 Tryz.func117 rfl Tryz.ntmps117 (by decide) ?_
  have hb' := hb
  rw [show median ltInt d x y z s = (((order2 ltInt d (order2 ltInt d x y s).1 (order2 ltInt d (order2 ltInt d x y s).2.1 z (order2 ltInt d x y s).2.2).1 (order2 ltInt d (order2 ltInt d x y s).2.1 z (order2 ltInt d x y s).2.2).2.2)).2.1, ((order2 ltInt d (order2 ltInt d x y s).1 (order2 ltInt d (order2 ltInt d x y s).2.1 z (order2 ltInt d x y s).2.2).1 (order2 ltInt d (order2 ltInt d x y s).2.1 z (order2 ltInt d x y s).2.2).2.2)).2.2) from rfl]
  have b1 := order2_lt (d := d) (s := s) hx hy
  repeat' (first|refine Ga0 fun _=>?_|refine Ga1 ?_|refine Ga2 (fun _=>?_) fun _=>?_|refine Ga3 ?_|refine Ga4 fun _=>?_|fail)
  refine OW.call (order2U b bs cap m x y s d rest L hd hx hy (by omega)) ?_
  rintro _ _ ⟨rfl, rfl⟩
  generalize order2 ltInt d x y s = r1 at *
  obtain ⟨x1, y1, s1⟩ := r1
  simp only at b1 ⊢
  have b2 := order2_lt (d := d) (s := s1) b1.2.1 hz
  repeat' (first|refine Ga0 fun _=>?_|refine Ga1 ?_|refine Ga2 (fun _=>?_) fun _=>?_|refine Ga3 ?_|refine Ga4 fun _=>?_|fail)
  refine OW.call (order2U b bs cap m y1 z s1 d rest L hd b1.2.1 hz (by omega)) ?_
  rintro _ _ ⟨rfl, rfl⟩
  generalize order2 ltInt d y1 z s1 = r2 at *
  obtain ⟨x2, y2, s2⟩ := r2
  simp only at b2 ⊢
  have b3 := order2_lt (d := d) (s := s2) b1.1 b2.1
  repeat' (first|refine Ga0 fun _=>?_|refine Ga1 ?_|refine Ga2 (fun _=>?_) fun _=>?_|refine Ga3 ?_|refine Ga4 fun _=>?_|fail)
  refine OW.call (order2U b bs cap m x1 x2 s2 d rest L hd b1.1 b2.1 (by omega)) ?_
  rintro _ _ ⟨rfl, rfl⟩
  generalize order2 ltInt d x1 x2 s2 = r3 at *
  obtain ⟨x3, y3, s3⟩ := r3
  simp only at b3 ⊢
  repeat' (first|refine Ga0 fun _=>?_|refine Ga1 ?_|refine Ga2 (fun _=>?_) fun _=>?_|refine Ga3 ?_|refine Ga4 fun _=>?_|fail)
  exact bodyK.ret (Res.one Tryz.results117) ⟨rfl, rfl⟩
theorem medianAdjacentU (b bs cap m x s : Nat) (d : Array Int) (rest : List Value) (L : Chunk) (hd : Srt m d) (hx0 : 1 ≤ x) (hx : x + 1 < m) (hs : s ≤ 900) [hb : InC L b (.cells (kvs .u32 d ++ rest).toArray 25 (0, 0))] :
    Fn1 Tryz.prog 116 [.slice (some ⟨b, 0, none⟩) m cap, .int .i64 x, .pointer (some ⟨bs, 0, none⟩)] ((bs, .cells #[.int .i64 s] 3 (0, 0)) :: L)
      (fun u L' => u = .int .i64 (medianAdjacent ltInt d x s).1 ∧ L' = (bs, .cells #[.int .i64 (medianAdjacent ltInt d x s).2] 3 (0, 0)) :: L) := by
  intro w0; refine Spec.enter3 Tryz.func116 rfl Tryz.ntmps116 (by decide) ?_
  have hb' := hb
  have hml := hd.len
  unfold medianAdjacent
  repeat' (first|refine Ga0 fun _=>?_|refine Ga1 ?_|refine Ga2 (fun _=>?_) fun _=>?_|refine Ga3 ?_|refine Ga4 fun _=>?_|fail)
  rw [show (x : Int) - 1 = ((x - 1 : Nat) : Int) by omega, show (x : Int) + 1 = ((x + 1 : Nat) : Int) by omega]
  refine OW.call (medianU b bs cap m (x - 1) x (x + 1) s d rest L hd (by omega) (by omega) (by omega) hs) ?_
  rintro _ _ ⟨rfl, rfl⟩
  repeat' (first|refine Ga0 fun _=>?_|refine Ga1 ?_|refine Ga2 (fun _=>?_) fun _=>?_|refine Ga3 ?_|refine Ga4 fun _=>?_|fail)
  exact bodyK.ret (Res.one Tryz.results116) ⟨rfl, rfl⟩
def hintI : Hint → Int
  | .unknown => 0
  | .increasing => 1
  | .decreasing => 2
theorem median_lt {d : Array Int} {x y z s m : Nat} (hx : x < m) (hy : y < m) (hz : z < m) : (median ltInt d x y z s).1 < m ∧ (median ltInt d x y z s).2 ≤ s + 3 :=
  ⟨by rcases median_mem ltInt d x y z s with h | h | h <;> rw [h] <;> assumption, median_count ..⟩
def pickH (r : Nat × Nat) : Nat × Hint := (r.1, if r.2 = 0 then Hint.increasing else if r.2 = 12 then .decreasing else .unknown)
theorem choosePivotU (b cap m lo hi : Nat) (d : Array Int) (rest : List Value) (L : Chunk) (hd : Srt m d) (hlh : lo < hi) (hhm : hi ≤ m) [hb : InC L b (.cells (kvs .u32 d ++ rest).toArray 25 (0, 0))] :
    Fn1 Tryz.prog 92 [.slice (some ⟨b, 0, none⟩) m cap, .int .i64 lo, .int .i64 hi] L
      (fun u L' => u = .tuple #[.int .i64 (choosePivot ltInt d lo hi).1, .int .i64 (hintI (choosePivot ltInt d lo hi).2)] ∧ L' = L) := by
  intro w0; refine Spec.enter3 Tryz.func92 rfl Tryz.ntmps92 (by decide) ?_
  have hb' := hb
  have hml := hd.len
  obtain ⟨l, rfl⟩ : ∃ l, hi = lo + l := ⟨hi - lo, by omega⟩
  have hcp : choosePivot ltInt d lo (lo + l) = pickH
      (if l ≥ 8 then
        if l ≥ 50 then
          let ri := medianAdjacent ltInt d (lo + l / 4 * 1) 0
          let rj := medianAdjacent ltInt d (lo + l / 4 * 2) ri.2
          let rk := medianAdjacent ltInt d (lo + l / 4 * 3) rj.2
          median ltInt d ri.1 rj.1 rk.1 rk.2
        else median ltInt d (lo + l / 4 * 1) (lo + l / 4 * 2) (lo + l / 4 * 3) 0
      else (lo + l / 4 * 2, 0)) := by
    unfold choosePivot
    rw [show lo + l - lo = l by omega]
    rfl
  have ha : (lo : Int) + (l : Int) = (lo : Int) + l := rfl
  have hll : ((lo + l : Nat) : Int) - (lo : Int) = (l : Int) := by omega
  by_cases h8 : l ≥ 8
  · rw [if_pos h8] at hcp
    by_cases h50 : l ≥ 50
    · rw [if_pos h50] at hcp
      have m1 := medianAdjacent_mem ltInt d (lo + l / 4 * 1) 0
      have c1 := medianAdjacent_count (lt := ltInt) d (lo + l / 4 * 1) 0
      obtain ⟨⟨i1, s1⟩, e1⟩ : ∃ r, medianAdjacent ltInt d (lo + l / 4 * 1) 0 = r := ⟨_, rfl⟩
      rw [e1] at m1 c1 hcp
      simp only at m1 c1 hcp
      have m2 := medianAdjacent_mem ltInt d (lo + l / 4 * 2) s1
      have c2 := medianAdjacent_count (lt := ltInt) d (lo + l / 4 * 2) s1
      obtain ⟨⟨i2, s2⟩, e2⟩ : ∃ r, medianAdjacent ltInt d (lo + l / 4 * 2) s1 = r := ⟨_, rfl⟩
      rw [e2] at m2 c2 hcp
      simp only at m2 c2 hcp
      have m3 := medianAdjacent_mem ltInt d (lo + l / 4 * 3) s2
      have c3 := medianAdjacent_count (lt := ltInt) d (lo + l / 4 * 3) s2
      obtain ⟨⟨i3, s3⟩, e3⟩ : ∃ r, medianAdjacent ltInt d (lo + l / 4 * 3) s2 = r := ⟨_, rfl⟩
      rw [e3] at m3 c3 hcp
      simp only at m3 c3 hcp
      have hr := median_lt (d := d) (m := m) (x := i1) (y := i2) (z := i3) (s := s3) (by omega) (by omega) (by omega)
      obtain ⟨⟨r1, r2⟩, er⟩ : ∃ r, median ltInt d i1 i2 i3 s3 = r := ⟨_, rfl⟩
      rw [er] at hr hcp
      simp only at hr hcp
      repeat' (first|refine Gb0 fun _=>?_|refine Gb1 ?_|refine Gb2 (fun _=>?_) fun _=>?_|refine Gb3 ?_|refine Gb4 fun _=>?_|fail)
      rename_i bw
      rw [hll]
      rw [show (lo : Int) + (l : Int) / 4 * 1 = ((lo + l / 4 * 1 : Nat) : Int) by omega, show (lo : Int) + (l : Int) / 4 * 2 = ((lo + l / 4 * 2 : Nat) : Int) by omega, show (lo : Int) + (l : Int) / 4 * 3 = ((lo + l / 4 * 3 : Nat) : Int) by omega]
      have k1 := medianAdjacentU b bw cap m (lo + l / 4 * 1) 0 d rest L hd (by omega) (by omega) (by omega)
      rw [e1] at k1
      refine OW.call k1 ?_
      rintro _ _ ⟨rfl, rfl⟩
      repeat' (first|refine Gb0 fun _=>?_|refine Gb1 ?_|refine Gb2 (fun _=>?_) fun _=>?_|refine Gb3 ?_|refine Gb4 fun _=>?_|fail)
      have k2 := medianAdjacentU b bw cap m (lo + l / 4 * 2) s1 d rest L hd (by omega) (by omega) (by omega)
      rw [e2] at k2
      refine OW.call k2 ?_
      rintro _ _ ⟨rfl, rfl⟩
      repeat' (first|refine Gb0 fun _=>?_|refine Gb1 ?_|refine Gb2 (fun _=>?_) fun _=>?_|refine Gb3 ?_|refine Gb4 fun _=>?_|fail)
      have k3 := medianAdjacentU b bw cap m (lo + l / 4 * 3) s2 d rest L hd (by omega) (by omega) (by omega)
      rw [e3] at k3
      refine OW.call k3 ?_
      rintro _ _ ⟨rfl, rfl⟩
      repeat' (first|refine Gb0 fun _=>?_|refine Gb1 ?_|refine Gb2 (fun _=>?_) fun _=>?_|refine Gb3 ?_|refine Gb4 fun _=>?_|fail)
      have k4 := medianU b bw cap m i1 i2 i3 s3 d rest L hd (by omega) (by omega) (by omega) (by omega)
      rw [er] at k4
      refine OW.call k4 ?_
      rintro _ _ ⟨rfl, rfl⟩
      rw [hcp]; unfold pickH; simp only
      by_cases h0 : r2 = 0
      · rw [if_pos h0]
        repeat' (first|refine Gb0 fun _=>?_|refine Gb1 ?_|refine Gb2 (fun _=>?_) fun _=>?_|refine Gb3 ?_|refine Gb4 fun _=>?_|fail)
        exact bodyK.retD L (Res.two Tryz.results92) ⟨rfl, rfl⟩
      · rw [if_neg h0]
        by_cases h12 : r2 = 12
        · rw [if_pos h12]
          repeat' (first|refine Gb0 fun _=>?_|refine Gb1 ?_|refine Gb2 (fun _=>?_) fun _=>?_|refine Gb3 ?_|refine Gb4 fun _=>?_|fail)
          exact bodyK.retD L (Res.two Tryz.results92) ⟨rfl, rfl⟩
        · rw [if_neg h12]
          repeat' (first|refine Gb0 fun _=>?_|refine Gb1 ?_|refine Gb2 (fun _=>?_) fun _=>?_|refine Gb3 ?_|refine Gb4 fun _=>?_|fail)
          exact bodyK.retD L (Res.two Tryz.results92) ⟨rfl, rfl⟩
    · rw [if_neg h50] at hcp
      have hr := median_lt (d := d) (m := m) (x := lo + l / 4 * 1) (y := lo + l / 4 * 2) (z := lo + l / 4 * 3) (s := 0) (by omega) (by omega) (by omega)
      obtain ⟨⟨r1, r2⟩, er⟩ : ∃ r, median ltInt d (lo + l / 4 * 1) (lo + l / 4 * 2) (lo + l / 4 * 3) 0 = r := ⟨_, rfl⟩
      rw [er] at hr hcp
      simp only at hr hcp
      repeat' (first|refine Gb0 fun _=>?_|refine Gb1 ?_|refine Gb2 (fun _=>?_) fun _=>?_|refine Gb3 ?_|refine Gb4 fun _=>?_|fail)
      rename_i bw
      rw [hll]
      rw [show (lo : Int) + (l : Int) / 4 * 1 = ((lo + l / 4 * 1 : Nat) : Int) by omega, show (lo : Int) + (l : Int) / 4 * 2 = ((lo + l / 4 * 2 : Nat) : Int) by omega, show (lo : Int) + (l : Int) / 4 * 3 = ((lo + l / 4 * 3 : Nat) : Int) by omega]
      have k4 := medianU b bw cap m (lo + l / 4 * 1) (lo + l / 4 * 2) (lo + l / 4 * 3) 0 d rest L hd (by omega) (by omega) (by omega) (by omega)
      rw [er] at k4
      refine OW.call k4 ?_
      rintro _ _ ⟨rfl, rfl⟩
      rw [hcp]; unfold pickH; simp only
      by_cases h0 : r2 = 0
      · rw [if_pos h0]
        repeat' (first|refine Gb0 fun _=>?_|refine Gb1 ?_|refine Gb2 (fun _=>?_) fun _=>?_|refine Gb3 ?_|refine Gb4 fun _=>?_|fail)
        exact bodyK.retD L (Res.two Tryz.results92) ⟨rfl, rfl⟩
      · rw [if_neg h0]
        by_cases h12 : r2 = 12
        · exact absurd hr.2 (by omega)
        · rw [if_neg h12]
          repeat' (first|refine Gb0 fun _=>?_|refine Gb1 ?_|refine Gb2 (fun _=>?_) fun _=>?_|refine Gb3 ?_|refine Gb4 fun _=>?_|fail)
          exact bodyK.retD L (Res.two Tryz.results92) ⟨rfl, rfl⟩
  · rw [if_neg h8] at hcp
    rw [hcp]; unfold pickH; simp only
    repeat' (first|refine Gb0 fun _=>?_|refine Gb1 ?_|refine Gb2 (fun _=>?_) fun _=>?_|refine Gb3 ?_|refine Gb4 fun _=>?_|fail)
    rw [hll]
    rw [show (lo : Int) + (l : Int) / 4 * 1 = ((lo + l / 4 * 1 : Nat) : Int) by omega, show (lo : Int) + (l : Int) / 4 * 2 = ((lo + l / 4 * 2 : Nat) : Int) by omega, show (lo : Int) + (l : Int) / 4 * 3 = ((lo + l / 4 * 3 : Nat) : Int) by omega]
    exact bodyK.retD L (Res.two Tryz.results92) ⟨rfl, rfl⟩
end Go.Proofs.YtocjgcmgkaabiaaGreat
