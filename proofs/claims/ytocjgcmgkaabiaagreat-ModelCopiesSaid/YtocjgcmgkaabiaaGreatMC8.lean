/-
  For every input the law ModelCopies returns true, and each argument reads behind the call as it read before. This text holds lemmas for it (part 8).
  Conditions: none.
-/
import Derived.Test.YtocjgcmgkaabiaaGreatMC2
import Derived.Test.YtocjgcmgkaabiaaGreatMC7
set_option linter.all false
namespace Go.Proofs.YtocjgcmgkaabiaaGreat
open Go Go.Pw Go.Sort
set_option maxRecDepth 100000
set_option maxHeartbeats 4000000
set_option synthInstance.maxHeartbeats 400000
set_option synthInstance.maxSize 2000
attribute [local irreducible] CW OW RW thenK blockK
attribute [local irreducible] scopeK loopK TRW ATW

theorem up_step {p : Int → Bool} {d : Array Int} {j i : Nat} (h : i ≤ j) (hp : p d[i]! = true) : scanUp p d j i = scanUp p d j (i + 1) := by
  rw [scanUp]; rw [if_pos (by rw [decide_eq_true h, hp]; rfl)]
theorem up_end {p : Int → Bool} {d : Array Int} {j i : Nat} (h : ¬ (i ≤ j ∧ p d[i]! = true)) : scanUp p d j i = i := by
  rw [scanUp]; rw [if_neg (by simpa using h)]
theorem down_step {p : Int → Bool} {d : Array Int} {j i : Nat} (h : i ≤ j + 1) (hp : p d[j + 1]! = true) : scanDown p d i (j + 1) = scanDown p d i j := by
  rw [scanDown]; rw [if_pos (by rw [decide_eq_true h, hp]; rfl)]
theorem down_end {p : Int → Bool} {d : Array Int} {j i : Nat} (hi : 1 ≤ i) (h : ¬ (i ≤ j ∧ p d[j]! = true)) : scanDown p d i j = j := by
  cases j with
  | zero => rfl
  | succ j => rw [scanDown]; rw [if_neg (by simpa using h)]

theorem partEqLoop_two {lo i j : Nat} {d : Array Int} (i2 j2 : Nat) (h1 : scanUp (fun x => !ltInt d[lo]! x) d j i = i2) (h2 : scanDown (fun x => ltInt d[lo]! x) d i2 j = j2) :
    partEqLoop ltInt lo i j d = if i2 > j2 then (i2, d) else partEqLoop ltInt lo (i2 + 1) (j2 - 1) (swp d i2 j2) := by
  rw [partEqLoop_eq, h1, h2]
theorem partitionEqualU (b cap m lo hi pv : Nat) (d : Array Int) (rest : List Value) (L : Chunk) (hd : Srt m d) (h1 : lo ≤ pv) (h2 : pv < hi) (hhm : hi ≤ m) :
    Fn1 Tryz.prog 96 [.slice (some ⟨b, 0, none⟩) m cap, .int .i64 lo, .int .i64 hi, .int .i64 pv] ((b, .cells (kvs .u32 d ++ rest).toArray 25 (0, 0)) :: L)
      (fun u L' => u = .int .i64 (partitionEqual ltInt d lo hi pv).1 ∧ L' = (b, .cells (kvs .u32 (partitionEqual ltInt d lo hi pv).2 ++ rest).toArray 25 (0, 0)) :: L) := by
  intro w0; refine Spec.enter4 Tryz.func96 rfl Tryz.ntmps96 (by decide) ?_
  have hml := hd.len
  have l1 : LtS lo d.size := ⟨by rw [hd.size]; omega⟩
  have l2 : LtS pv d.size := ⟨by rw [hd.size]; omega⟩
  obtain ⟨q, rfl⟩ : ∃ q, hi = q + 1 := ⟨hi - 1, by omega⟩
  have hr : partitionEqual ltInt d lo (q + 1) pv = partEqLoop ltInt lo (lo + 1) q (swp d lo pv) := rfl
  rw [hr]
  repeat' (first|refine Gi0 fun _=>?_|refine Gi1 ?_|refine CW.drawsSw (id := 1) [0, 1, 2, 3, 4, 5, 6, 8, 9, 10] [7, 11] 12 [13, 14, 15] mixed (by kernel_rfl) ?_|refine CW.drawsP (id := 3) [0,1,2,3,4,5,6,7,8,9,10,11,12,13,14] mixed (by kernel_rfl) ?_|refine CW.drawsP (id := 5) [0,1,2,3,4,5,6,7,8,9,10,11,12,13] mixed (by kernel_rfl) ?_|refine CW.drawsSw (id := 8) [0, 1, 2, 3, 4, 5, 6, 8, 9, 10] [7, 11] 12 [13, 14, 15] mixed (by kernel_rfl) ?_|refine Gi2 (fun _=>?_) fun _=>?_|refine Gi3 ?_|refine Gi4 fun _=>?_|fail)
  rw [show ((q + 1 : Nat) : Int) - 1 = (q : Int) by omega, show (lo : Int) + 1 = ((lo + 1 : Nat) : Int) by omega]
  refine CW.loop (fun k ρ ds L' => ds = [] ∧ (∃ i j d', L' = (b, .cells (kvs .u32 d' ++ rest).toArray 25 (0, 0)) :: L ∧ Srt m d' ∧ lo < i ∧ i ≤ j + 2 ∧ j < m ∧ k = j + 1 - i ∧ partEqLoop ltInt lo i j d' = partEqLoop ltInt lo (lo + 1) q (swp d lo pv) ∧ Ev ρ 9 (.int .i64 (i : Int)) ∧ Ev ρ 10 (.int .i64 (j : Int))) ∧ Ev ρ 0 (.slice (some ⟨b, 0, none⟩) m cap) ∧ Ev ρ 1 (.int .i64 lo)) (q + 1 - (lo + 1))
    ⟨rfl, ⟨lo + 1, q, swp d lo pv, rfl, hd.swp _ _, by omega, by omega, by omega, rfl, rfl, inferInstance, inferInstance⟩, inferInstance, inferInstance⟩ ?_
  rintro k ρ ds L' ⟨rfl, ⟨i, j, d', rfl, hd', hi0, hij, hj, rfl, hfin, e9, e10⟩, e0, e1⟩
  have l1' : LtS lo d'.size := ⟨by rw [hd'.size]; omega⟩
  obtain ⟨u1, u2, _, _⟩ := scanUp_spec (fun x => !ltInt d'[lo]! x) d' j _ i rfl
  obtain ⟨w1, w2, _, _⟩ := scanDown_spec (fun x => ltInt d'[lo]! x) d' (scanUp (fun x => !ltInt d'[lo]! x) d' j i) j
  obtain ⟨i2, h2i⟩ : ∃ r, scanUp (fun x => !ltInt d'[lo]! x) d' j i = r := ⟨_, rfl⟩
  rw [h2i] at u1 u2 w1 w2
  obtain ⟨j2, h2j⟩ : ∃ r, scanDown (fun x => ltInt d'[lo]! x) d' i2 j = r := ⟨_, rfl⟩
  rw [h2j] at w1 w2
  rw [partEqLoop_two i2 j2 h2i h2j] at hfin
  repeat' (first|refine Gi0 fun _=>?_|refine Gi1 ?_|refine CW.drawsSw (id := 1) [0, 1, 2, 3, 4, 5, 6, 8, 9, 10] [7, 11] 12 [13, 14, 15] mixed (by kernel_rfl) ?_|refine CW.drawsP (id := 3) [0,1,2,3,4,5,6,7,8,9,10,11,12,13,14] mixed (by kernel_rfl) ?_|refine CW.drawsP (id := 5) [0,1,2,3,4,5,6,7,8,9,10,11,12,13] mixed (by kernel_rfl) ?_|refine CW.drawsSw (id := 8) [0, 1, 2, 3, 4, 5, 6, 8, 9, 10] [7, 11] 12 [13, 14, 15] mixed (by kernel_rfl) ?_|refine Gi2 (fun _=>?_) fun _=>?_|refine Gi3 ?_|refine Gi4 fun _=>?_|fail)
  refine CW.loop (fun k ρ ds L' => ds = [] ∧ (∃ i', L' = (b, .cells (kvs .u32 d' ++ rest).toArray 25 (0, 0)) :: L ∧ i ≤ i' ∧ i' ≤ j + 2 ∧ k = j + 1 - i' ∧ scanUp (fun x => !ltInt d'[lo]! x) d' j i' = i2 ∧ Ev ρ 9 (.int .i64 (i' : Int))) ∧ Ev ρ 10 (.int .i64 (j : Int)) ∧ Ev ρ 0 (.slice (some ⟨b, 0, none⟩) m cap) ∧ Ev ρ 1 (.int .i64 lo)) (j + 1 - i)
    ⟨rfl, ⟨i, rfl, Nat.le_refl _, hij, rfl, h2i, inferInstance⟩, inferInstance, inferInstance, inferInstance⟩ ?_
  rintro k ρ ds L' ⟨rfl, ⟨i', rfl, hi1, hi2, rfl, hsc, e9⟩, e10, e0, e1⟩
  by_cases hle : i' ≤ j
  · have l3 : LtS i' d'.size := ⟨by rw [hd'.size]; omega⟩
    repeat' (first|refine Gi0 fun _=>?_|refine Gi1 ?_|refine CW.drawsSw (id := 1) [0, 1, 2, 3, 4, 5, 6, 8, 9, 10] [7, 11] 12 [13, 14, 15] mixed (by kernel_rfl) ?_|refine CW.drawsP (id := 3) [0,1,2,3,4,5,6,7,8,9,10,11,12,13,14] mixed (by kernel_rfl) ?_|refine CW.drawsP (id := 5) [0,1,2,3,4,5,6,7,8,9,10,11,12,13] mixed (by kernel_rfl) ?_|refine CW.drawsSw (id := 8) [0, 1, 2, 3, 4, 5, 6, 8, 9, 10] [7, 11] 12 [13, 14, 15] mixed (by kernel_rfl) ?_|refine Gi2 (fun _=>?_) fun _=>?_|refine Gi3 ?_|refine Gi4 fun _=>?_|fail)
    refine RW.call (lessU _ _ _) ?_
    rintro _ _ ⟨rfl, rfl⟩
    refine pinAll ?_
    cases hc : ltInt d'[lo]! d'[i']! with
    | false =>
      rw [up_step hle (by rw [hc]; rfl)] at hsc
      repeat' (first|refine Gi0 fun _=>?_|refine Gi1 ?_|refine CW.drawsSw (id := 1) [0, 1, 2, 3, 4, 5, 6, 8, 9, 10] [7, 11] 12 [13, 14, 15] mixed (by kernel_rfl) ?_|refine CW.drawsP (id := 3) [0,1,2,3,4,5,6,7,8,9,10,11,12,13,14] mixed (by kernel_rfl) ?_|refine CW.drawsP (id := 5) [0,1,2,3,4,5,6,7,8,9,10,11,12,13] mixed (by kernel_rfl) ?_|refine CW.drawsSw (id := 8) [0, 1, 2, 3, 4, 5, 6, 8, 9, 10] [7, 11] 12 [13, 14, 15] mixed (by kernel_rfl) ?_|refine Gi2 (fun _=>?_) fun _=>?_|refine Gi3 ?_|refine Gi4 fun _=>?_|fail)
      rw [show (i' : Int) + 1 = ((i' + 1 : Nat) : Int) by omega]
      exact ⟨j + 1 - (i' + 1), by omega, rfl, ⟨i' + 1, rfl, by omega, by omega, rfl, hsc, inferInstance⟩, inferInstance, inferInstance, inferInstance⟩
    | true =>
      rw [up_end (by rw [hc]; simp)] at hsc
      subst hsc
      repeat' (first|refine Gi0 fun _=>?_|refine Gi1 ?_|refine CW.drawsSw (id := 1) [0, 1, 2, 3, 4, 5, 6, 8, 9, 10] [7, 11] 12 [13, 14, 15] mixed (by kernel_rfl) ?_|refine CW.drawsP (id := 3) [0,1,2,3,4,5,6,7,8,9,10,11,12,13,14] mixed (by kernel_rfl) ?_|refine CW.drawsP (id := 5) [0,1,2,3,4,5,6,7,8,9,10,11,12,13] mixed (by kernel_rfl) ?_|refine CW.drawsSw (id := 8) [0, 1, 2, 3, 4, 5, 6, 8, 9, 10] [7, 11] 12 [13, 14, 15] mixed (by kernel_rfl) ?_|refine Gi2 (fun _=>?_) fun _=>?_|refine Gi3 ?_|refine Gi4 fun _=>?_|fail)
      refine CW.loop (fun k ρ ds L' => ds = [] ∧ (∃ j', L' = (b, .cells (kvs .u32 d' ++ rest).toArray 25 (0, 0)) :: L ∧ j' ≤ j ∧ j' = k ∧ scanDown (fun x => ltInt d'[lo]! x) d' i' j' = j2 ∧ Ev ρ 10 (.int .i64 (j' : Int))) ∧ Ev ρ 9 (.int .i64 (i' : Int)) ∧ Ev ρ 0 (.slice (some ⟨b, 0, none⟩) m cap) ∧ Ev ρ 1 (.int .i64 lo)) j
        ⟨rfl, ⟨j, rfl, Nat.le_refl _, rfl, h2j, inferInstance⟩, inferInstance, inferInstance, inferInstance⟩ ?_
      rintro k ρ ds L' ⟨rfl, ⟨j', rfl, hj1, rfl, hsd, e10⟩, e9, e0, e1⟩
      have endd : j' = j2 → i' ≤ j' → (if i' > j2 then (i', d') else partEqLoop ltInt lo (i' + 1) (j2 - 1) (swp d' i' j2)) = partEqLoop ltInt lo (i' + 1) (j' - 1) (swp d' i' j') := fun h1 h2 => by rw [← h1, if_neg (by omega)]
      by_cases hle2 : i' ≤ j'
      · have l3 : LtS i' d'.size := ⟨by rw [hd'.size]; omega⟩
        have l4 : LtS j' d'.size := ⟨by rw [hd'.size]; omega⟩
        obtain ⟨j', rfl⟩ : ∃ t, j' = t + 1 := ⟨j' - 1, by omega⟩
        repeat' (first|refine Gi0 fun _=>?_|refine Gi1 ?_|refine CW.drawsSw (id := 1) [0, 1, 2, 3, 4, 5, 6, 8, 9, 10] [7, 11] 12 [13, 14, 15] mixed (by kernel_rfl) ?_|refine CW.drawsP (id := 3) [0,1,2,3,4,5,6,7,8,9,10,11,12,13,14] mixed (by kernel_rfl) ?_|refine CW.drawsP (id := 5) [0,1,2,3,4,5,6,7,8,9,10,11,12,13] mixed (by kernel_rfl) ?_|refine CW.drawsSw (id := 8) [0, 1, 2, 3, 4, 5, 6, 8, 9, 10] [7, 11] 12 [13, 14, 15] mixed (by kernel_rfl) ?_|refine Gi2 (fun _=>?_) fun _=>?_|refine Gi3 ?_|refine Gi4 fun _=>?_|fail)
        refine RW.call (lessU _ _ _) ?_
        rintro _ _ ⟨rfl, rfl⟩
        refine pinAll ?_
        cases hc2 : ltInt d'[lo]! d'[j' + 1]! with
        | true =>
          rw [down_step hle2 hc2] at hsd
          repeat' (first|refine Gi0 fun _=>?_|refine Gi1 ?_|refine CW.drawsSw (id := 1) [0, 1, 2, 3, 4, 5, 6, 8, 9, 10] [7, 11] 12 [13, 14, 15] mixed (by kernel_rfl) ?_|refine CW.drawsP (id := 3) [0,1,2,3,4,5,6,7,8,9,10,11,12,13,14] mixed (by kernel_rfl) ?_|refine CW.drawsP (id := 5) [0,1,2,3,4,5,6,7,8,9,10,11,12,13] mixed (by kernel_rfl) ?_|refine CW.drawsSw (id := 8) [0, 1, 2, 3, 4, 5, 6, 8, 9, 10] [7, 11] 12 [13, 14, 15] mixed (by kernel_rfl) ?_|refine Gi2 (fun _=>?_) fun _=>?_|refine Gi3 ?_|refine Gi4 fun _=>?_|fail)
          rw [show ((j' + 1 : Nat) : Int) - 1 = (j' : Int) by omega]
          exact ⟨j', by omega, rfl, ⟨j', rfl, by omega, rfl, hsd, inferInstance⟩, inferInstance, inferInstance, inferInstance⟩
        | false =>
          rw [down_end (by omega) (by rw [hc2]; simp)] at hsd
          rw [endd hsd hle2] at hfin
          clear endd
          repeat' (first|refine Gi0 fun _=>?_|refine Gi1 ?_|refine CW.drawsSw (id := 1) [0, 1, 2, 3, 4, 5, 6, 8, 9, 10] [7, 11] 12 [13, 14, 15] mixed (by kernel_rfl) ?_|refine CW.drawsP (id := 3) [0,1,2,3,4,5,6,7,8,9,10,11,12,13,14] mixed (by kernel_rfl) ?_|refine CW.drawsP (id := 5) [0,1,2,3,4,5,6,7,8,9,10,11,12,13] mixed (by kernel_rfl) ?_|refine CW.drawsSw (id := 8) [0, 1, 2, 3, 4, 5, 6, 8, 9, 10] [7, 11] 12 [13, 14, 15] mixed (by kernel_rfl) ?_|refine Gi2 (fun _=>?_) fun _=>?_|refine Gi3 ?_|refine Gi4 fun _=>?_|fail)
          rw [show (i' : Int) + 1 = ((i' + 1 : Nat) : Int) by omega, show ((j' + 1 : Nat) : Int) - 1 = (j' : Int) by omega]
          exact ⟨j' + 1 - (i' + 1), by omega, rfl, ⟨i' + 1, j', swp d' i' (j' + 1), rfl, hd'.swp _ _, by omega, by omega, by omega, rfl, hfin, inferInstance, inferInstance⟩, inferInstance, inferInstance⟩
      · rw [down_end (by omega) (fun h => hle2 h.1)] at hsd
        rw [if_pos (by omega)] at hfin
        clear endd
        repeat' (first|refine Gi0 fun _=>?_|refine Gi1 ?_|refine CW.drawsSw (id := 1) [0, 1, 2, 3, 4, 5, 6, 8, 9, 10] [7, 11] 12 [13, 14, 15] mixed (by kernel_rfl) ?_|refine CW.drawsP (id := 3) [0,1,2,3,4,5,6,7,8,9,10,11,12,13,14] mixed (by kernel_rfl) ?_|refine CW.drawsP (id := 5) [0,1,2,3,4,5,6,7,8,9,10,11,12,13] mixed (by kernel_rfl) ?_|refine CW.drawsSw (id := 8) [0, 1, 2, 3, 4, 5, 6, 8, 9, 10] [7, 11] 12 [13, 14, 15] mixed (by kernel_rfl) ?_|refine Gi2 (fun _=>?_) fun _=>?_|refine Gi3 ?_|refine Gi4 fun _=>?_|fail)
        refine bodyK.ret (Res.one Tryz.results96) ?_
        rw [← hfin]
        exact ⟨rfl, rfl⟩
  · rw [up_end (fun h => hle h.1)] at hsc
    subst hsc
    repeat' (first|refine Gi0 fun _=>?_|refine Gi1 ?_|refine CW.drawsSw (id := 1) [0, 1, 2, 3, 4, 5, 6, 8, 9, 10] [7, 11] 12 [13, 14, 15] mixed (by kernel_rfl) ?_|refine CW.drawsP (id := 3) [0,1,2,3,4,5,6,7,8,9,10,11,12,13,14] mixed (by kernel_rfl) ?_|refine CW.drawsP (id := 5) [0,1,2,3,4,5,6,7,8,9,10,11,12,13] mixed (by kernel_rfl) ?_|refine CW.drawsSw (id := 8) [0, 1, 2, 3, 4, 5, 6, 8, 9, 10] [7, 11] 12 [13, 14, 15] mixed (by kernel_rfl) ?_|refine Gi2 (fun _=>?_) fun _=>?_|refine Gi3 ?_|refine Gi4 fun _=>?_|fail)
    refine CW.loop (fun k ρ ds L' => ds = [] ∧ (∃ j', L' = (b, .cells (kvs .u32 d' ++ rest).toArray 25 (0, 0)) :: L ∧ j' ≤ j ∧ j' = k ∧ scanDown (fun x => ltInt d'[lo]! x) d' i' j' = j2 ∧ Ev ρ 10 (.int .i64 (j' : Int))) ∧ Ev ρ 9 (.int .i64 (i' : Int)) ∧ Ev ρ 0 (.slice (some ⟨b, 0, none⟩) m cap) ∧ Ev ρ 1 (.int .i64 lo)) j
      ⟨rfl, ⟨j, rfl, Nat.le_refl _, rfl, h2j, inferInstance⟩, inferInstance, inferInstance, inferInstance⟩ ?_
    rintro k ρ ds L' ⟨rfl, ⟨j', rfl, hj1, rfl, hsd, e10⟩, e9, e0, e1⟩
    have endd : j' = j2 → i' ≤ j' → (if i' > j2 then (i', d') else partEqLoop ltInt lo (i' + 1) (j2 - 1) (swp d' i' j2)) = partEqLoop ltInt lo (i' + 1) (j' - 1) (swp d' i' j') := fun h1 h2 => by rw [← h1, if_neg (by omega)]
    by_cases hle2 : i' ≤ j'
    · exact absurd hle2 (by omega)
    · rw [down_end (by omega) (fun h => hle2 h.1)] at hsd
      rw [if_pos (by omega)] at hfin
      clear endd
      repeat' (first|refine Gi0 fun _=>?_|refine Gi1 ?_|refine CW.drawsSw (id := 1) [0, 1, 2, 3, 4, 5, 6, 8, 9, 10] [7, 11] 12 [13, 14, 15] mixed (by kernel_rfl) ?_|refine CW.drawsP (id := 3) [0,1,2,3,4,5,6,7,8,9,10,11,12,13,14] mixed (by kernel_rfl) ?_|refine CW.drawsP (id := 5) [0,1,2,3,4,5,6,7,8,9,10,11,12,13] mixed (by kernel_rfl) ?_|refine CW.drawsSw (id := 8) [0, 1, 2, 3, 4, 5, 6, 8, 9, 10] [7, 11] 12 [13, 14, 15] mixed (by kernel_rfl) ?_|refine Gi2 (fun _=>?_) fun _=>?_|refine Gi3 ?_|refine Gi4 fun _=>?_|fail)
      refine bodyK.ret (Res.one Tryz.results96) ?_
      rw [← hfin]
      exact ⟨rfl, rfl⟩
end Go.Proofs.YtocjgcmgkaabiaaGreat

namespace Go.Proofs.YtocjgcmgkaabiaaGreat
open Go Go.Pw Go.Sort
set_option maxRecDepth 100000
set_option maxHeartbeats 4000000
set_option synthInstance.maxHeartbeats 400000
set_option synthInstance.maxSize 2000
attribute [local irreducible] CW OW RW thenK blockK
attribute [local irreducible] scopeK loopK TRW ATW

theorem partLoop_two {lo i j : Nat} {d : Array Int} (i2 j2 : Nat) (h1 : scanUp (fun x => ltInt x d[lo]!) d j i = i2) (h2 : scanDown (fun x => !ltInt x d[lo]!) d i2 j = j2) :
    partLoop ltInt lo i j d = if i2 > j2 then (j2, d) else partLoop ltInt lo (i2 + 1) (j2 - 1) (swp d i2 j2) := by
  rw [partLoop_eq, h1, h2]
theorem partitionU (b cap m lo hi pv : Nat) (d : Array Int) (rest : List Value) (L : Chunk) (hd : Srt m d) (h1 : lo ≤ pv) (h2 : pv < hi) (hhm : hi ≤ m) :
    Fn1 Tryz.prog 97 [.slice (some ⟨b, 0, none⟩) m cap, .int .i64 lo, .int .i64 hi, .int .i64 pv] ((b, .cells (kvs .u32 d ++ rest).toArray 25 (0, 0)) :: L)
      (fun u L' => u = .tuple #[.int .i64 (partition ltInt d lo hi pv).1, .bool (partition ltInt d lo hi pv).2.1] ∧ L' = (b, .cells (kvs .u32 (partition ltInt d lo hi pv).2.2 ++ rest).toArray 25 (0, 0)) :: L) := by
  intro w0; refine Spec.enter4 Tryz.func97 rfl Tryz.ntmps97 (by decide) ?_
  have hml := hd.len
  have l1 : LtS lo d.size := ⟨by rw [hd.size]; omega⟩
  have l2 : LtS pv d.size := ⟨by rw [hd.size]; omega⟩
  obtain ⟨q, rfl⟩ : ∃ q, hi = q + 1 := ⟨hi - 1, by omega⟩
  have hr : ∀ i2 j2, scanUp (fun x => ltInt x (swp d lo pv)[lo]!) (swp d lo pv) q (lo + 1) = i2 → scanDown (fun x => !ltInt x (swp d lo pv)[lo]!) (swp d lo pv) i2 q = j2 →
      partition ltInt d lo (q + 1) pv = if i2 > j2 then (j2, true, swp (swp d lo pv) j2 lo) else ((partLoop ltInt lo (i2 + 1) (j2 - 1) (swp (swp d lo pv) i2 j2)).1, false, swp (partLoop ltInt lo (i2 + 1) (j2 - 1) (swp (swp d lo pv) i2 j2)).2 (partLoop ltInt lo (i2 + 1) (j2 - 1) (swp (swp d lo pv) i2 j2)).1 lo) := fun i2 j2 e1 e2 => by
    subst e1; subst e2; rfl
  repeat' (first|refine Gi0 fun _=>?_|refine Gi1 ?_|refine CW.drawsSw (id := 1) [0, 1, 2, 3, 4, 5, 6, 8, 9, 10] [7, 11] 12 [13, 14, 15] mixed (by kernel_rfl) ?_|refine CW.drawsP (id := 3) [0,1,2,3,4,5,6,7,8,9,10,11,12,13] mixed (by kernel_rfl) ?_|refine CW.drawsP (id := 5) [0,1,2,3,4,5,6,7,8,9,10,11,12,13,14] mixed (by kernel_rfl) ?_|refine CW.drawsSw (id := 8) [0, 1, 2, 3, 4, 5, 6, 8, 9, 10] [7, 11] 12 [13, 14, 15] mixed (by kernel_rfl) ?_|refine CW.drawsSw (id := 10) [0, 1, 2, 3, 4, 5, 6, 8, 9, 10] [7, 11] 12 [13, 14, 15] mixed (by kernel_rfl) ?_|refine CW.drawsP (id := 13) [0,1,2,3,4,5,6,7,8,9,10,11,12,13] mixed (by kernel_rfl) ?_|refine CW.drawsP (id := 15) [0,1,2,3,4,5,6,7,8,9,10,11,12,13,14] mixed (by kernel_rfl) ?_|refine CW.drawsSw (id := 18) [0, 1, 2, 3, 4, 5, 6, 8, 9, 10] [7, 11] 12 [13, 14, 15] mixed (by kernel_rfl) ?_|refine CW.drawsSw (id := 21) [0, 1, 2, 3, 4, 5, 6, 8, 9, 10] [7, 11] 12 [13, 14, 15] mixed (by kernel_rfl) ?_|refine Gi2 (fun _=>?_) fun _=>?_|refine Gi3 ?_|refine Gi4 fun _=>?_|fail)
  rw [show ((q + 1 : Nat) : Int) - 1 = (q : Int) by omega, show (lo : Int) + 1 = ((lo + 1 : Nat) : Int) by omega]
  have e9 := swp_eq d lo pv
  rw [e9]
  clear e9
  have hd' : Srt m (swp d lo pv) := hd.swp lo pv
  generalize swp d lo pv = d' at *
  generalize hij : lo + 1 = i at *
  generalize hqj : q = j at *
  have l1' : LtS lo d'.size := ⟨by rw [hd'.size]; omega⟩
  obtain ⟨u1, u2, _, _⟩ := scanUp_spec (fun x => ltInt x d'[lo]!) d' j _ i rfl
  obtain ⟨w1, w2, _, _⟩ := scanDown_spec (fun x => !ltInt x d'[lo]!) d' (scanUp (fun x => ltInt x d'[lo]!) d' j i) j
  obtain ⟨i2, h2i⟩ : ∃ r, scanUp (fun x => ltInt x d'[lo]!) d' j i = r := ⟨_, rfl⟩
  rw [h2i] at u1 u2 w1 w2
  obtain ⟨j2, h2j⟩ : ∃ r, scanDown (fun x => !ltInt x d'[lo]!) d' i2 j = r := ⟨_, rfl⟩
  rw [h2j] at w1 w2
  replace hr := hr i2 j2 h2i h2j
  refine CW.loopE 0 (fun ρ ds L' => ds = [] ∧ L' = (b, .cells (kvs .u32 d' ++ rest).toArray 25 (0, 0)) :: L ∧ Ev ρ 10 (.int .i64 (i2 : Int)) ∧ Ev ρ 11 (.int .i64 (j : Int)) ∧ Ev ρ 0 (.slice (some ⟨b, 0, none⟩) m cap) ∧ Ev ρ 1 (.int .i64 lo)) (fun k ρ ds L' => ds = [] ∧ (∃ i', L' = (b, .cells (kvs .u32 d' ++ rest).toArray 25 (0, 0)) :: L ∧ i' ≤ j + 2 ∧ k = j + 1 - i' ∧ scanUp (fun x => ltInt x d'[lo]!) d' j i' = i2 ∧ Ev ρ 10 (.int .i64 (i' : Int))) ∧ Ev ρ 11 (.int .i64 (j : Int)) ∧ Ev ρ 0 (.slice (some ⟨b, 0, none⟩) m cap) ∧ Ev ρ 1 (.int .i64 lo)) (j + 1 - i)
    ⟨rfl, ⟨i, rfl, by omega, rfl, h2i, inferInstance⟩, inferInstance, inferInstance, inferInstance⟩ ?_ ?_
  · rintro k ρ ds L' ⟨rfl, ⟨i', rfl, hi2, rfl, hsc, e10⟩, e11, e0, e1⟩
    by_cases hle : i' ≤ j
    · have l3 : LtS i' d'.size := ⟨by rw [hd'.size]; omega⟩
      repeat' (first|refine Gi0 fun _=>?_|refine Gi1 ?_|refine CW.drawsSw (id := 1) [0, 1, 2, 3, 4, 5, 6, 8, 9, 10] [7, 11] 12 [13, 14, 15] mixed (by kernel_rfl) ?_|refine CW.drawsP (id := 3) [0,1,2,3,4,5,6,7,8,9,10,11,12,13] mixed (by kernel_rfl) ?_|refine CW.drawsP (id := 5) [0,1,2,3,4,5,6,7,8,9,10,11,12,13,14] mixed (by kernel_rfl) ?_|refine CW.drawsSw (id := 8) [0, 1, 2, 3, 4, 5, 6, 8, 9, 10] [7, 11] 12 [13, 14, 15] mixed (by kernel_rfl) ?_|refine CW.drawsSw (id := 10) [0, 1, 2, 3, 4, 5, 6, 8, 9, 10] [7, 11] 12 [13, 14, 15] mixed (by kernel_rfl) ?_|refine CW.drawsP (id := 13) [0,1,2,3,4,5,6,7,8,9,10,11,12,13] mixed (by kernel_rfl) ?_|refine CW.drawsP (id := 15) [0,1,2,3,4,5,6,7,8,9,10,11,12,13,14] mixed (by kernel_rfl) ?_|refine CW.drawsSw (id := 18) [0, 1, 2, 3, 4, 5, 6, 8, 9, 10] [7, 11] 12 [13, 14, 15] mixed (by kernel_rfl) ?_|refine CW.drawsSw (id := 21) [0, 1, 2, 3, 4, 5, 6, 8, 9, 10] [7, 11] 12 [13, 14, 15] mixed (by kernel_rfl) ?_|refine Gi2 (fun _=>?_) fun _=>?_|refine Gi3 ?_|refine Gi4 fun _=>?_|fail)
      refine RW.call (lessU _ _ _) ?_
      rintro _ _ ⟨rfl, rfl⟩
      refine pinAll ?_
      cases hc : ltInt d'[i']! d'[lo]! with
      | true =>
        rw [up_step hle hc] at hsc
        repeat' (first|refine Gi0 fun _=>?_|refine Gi1 ?_|refine CW.drawsSw (id := 1) [0, 1, 2, 3, 4, 5, 6, 8, 9, 10] [7, 11] 12 [13, 14, 15] mixed (by kernel_rfl) ?_|refine CW.drawsP (id := 3) [0,1,2,3,4,5,6,7,8,9,10,11,12,13] mixed (by kernel_rfl) ?_|refine CW.drawsP (id := 5) [0,1,2,3,4,5,6,7,8,9,10,11,12,13,14] mixed (by kernel_rfl) ?_|refine CW.drawsSw (id := 8) [0, 1, 2, 3, 4, 5, 6, 8, 9, 10] [7, 11] 12 [13, 14, 15] mixed (by kernel_rfl) ?_|refine CW.drawsSw (id := 10) [0, 1, 2, 3, 4, 5, 6, 8, 9, 10] [7, 11] 12 [13, 14, 15] mixed (by kernel_rfl) ?_|refine CW.drawsP (id := 13) [0,1,2,3,4,5,6,7,8,9,10,11,12,13] mixed (by kernel_rfl) ?_|refine CW.drawsP (id := 15) [0,1,2,3,4,5,6,7,8,9,10,11,12,13,14] mixed (by kernel_rfl) ?_|refine CW.drawsSw (id := 18) [0, 1, 2, 3, 4, 5, 6, 8, 9, 10] [7, 11] 12 [13, 14, 15] mixed (by kernel_rfl) ?_|refine CW.drawsSw (id := 21) [0, 1, 2, 3, 4, 5, 6, 8, 9, 10] [7, 11] 12 [13, 14, 15] mixed (by kernel_rfl) ?_|refine Gi2 (fun _=>?_) fun _=>?_|refine Gi3 ?_|refine Gi4 fun _=>?_|fail)
        rw [show (i' : Int) + 1 = ((i' + 1 : Nat) : Int) by omega]
        exact ⟨j + 1 - (i' + 1), by omega, rfl, ⟨i' + 1, rfl, by omega, rfl, hsc, inferInstance⟩, inferInstance, inferInstance, inferInstance⟩
      | false =>
        rw [up_end (by rw [hc]; simp)] at hsc
        subst hsc
        repeat' (first|refine Gi0 fun _=>?_|refine Gi1 ?_|refine CW.drawsSw (id := 1) [0, 1, 2, 3, 4, 5, 6, 8, 9, 10] [7, 11] 12 [13, 14, 15] mixed (by kernel_rfl) ?_|refine CW.drawsP (id := 3) [0,1,2,3,4,5,6,7,8,9,10,11,12,13] mixed (by kernel_rfl) ?_|refine CW.drawsP (id := 5) [0,1,2,3,4,5,6,7,8,9,10,11,12,13,14] mixed (by kernel_rfl) ?_|refine CW.drawsSw (id := 8) [0, 1, 2, 3, 4, 5, 6, 8, 9, 10] [7, 11] 12 [13, 14, 15] mixed (by kernel_rfl) ?_|refine CW.drawsSw (id := 10) [0, 1, 2, 3, 4, 5, 6, 8, 9, 10] [7, 11] 12 [13, 14, 15] mixed (by kernel_rfl) ?_|refine CW.drawsP (id := 13) [0,1,2,3,4,5,6,7,8,9,10,11,12,13] mixed (by kernel_rfl) ?_|refine CW.drawsP (id := 15) [0,1,2,3,4,5,6,7,8,9,10,11,12,13,14] mixed (by kernel_rfl) ?_|refine CW.drawsSw (id := 18) [0, 1, 2, 3, 4, 5, 6, 8, 9, 10] [7, 11] 12 [13, 14, 15] mixed (by kernel_rfl) ?_|refine CW.drawsSw (id := 21) [0, 1, 2, 3, 4, 5, 6, 8, 9, 10] [7, 11] 12 [13, 14, 15] mixed (by kernel_rfl) ?_|refine Gi2 (fun _=>?_) fun _=>?_|refine Gi3 ?_|refine Gi4 fun _=>?_|fail)
        exact exitK_to ⟨rfl, rfl, inferInstance, inferInstance, inferInstance, inferInstance⟩
    · rw [up_end (fun h => hle h.1)] at hsc
      subst hsc
      repeat' (first|refine Gi0 fun _=>?_|refine Gi1 ?_|refine CW.drawsSw (id := 1) [0, 1, 2, 3, 4, 5, 6, 8, 9, 10] [7, 11] 12 [13, 14, 15] mixed (by kernel_rfl) ?_|refine CW.drawsP (id := 3) [0,1,2,3,4,5,6,7,8,9,10,11,12,13] mixed (by kernel_rfl) ?_|refine CW.drawsP (id := 5) [0,1,2,3,4,5,6,7,8,9,10,11,12,13,14] mixed (by kernel_rfl) ?_|refine CW.drawsSw (id := 8) [0, 1, 2, 3, 4, 5, 6, 8, 9, 10] [7, 11] 12 [13, 14, 15] mixed (by kernel_rfl) ?_|refine CW.drawsSw (id := 10) [0, 1, 2, 3, 4, 5, 6, 8, 9, 10] [7, 11] 12 [13, 14, 15] mixed (by kernel_rfl) ?_|refine CW.drawsP (id := 13) [0,1,2,3,4,5,6,7,8,9,10,11,12,13] mixed (by kernel_rfl) ?_|refine CW.drawsP (id := 15) [0,1,2,3,4,5,6,7,8,9,10,11,12,13,14] mixed (by kernel_rfl) ?_|refine CW.drawsSw (id := 18) [0, 1, 2, 3, 4, 5, 6, 8, 9, 10] [7, 11] 12 [13, 14, 15] mixed (by kernel_rfl) ?_|refine CW.drawsSw (id := 21) [0, 1, 2, 3, 4, 5, 6, 8, 9, 10] [7, 11] 12 [13, 14, 15] mixed (by kernel_rfl) ?_|refine Gi2 (fun _=>?_) fun _=>?_|refine Gi3 ?_|refine Gi4 fun _=>?_|fail)
      exact exitK_to ⟨rfl, rfl, inferInstance, inferInstance, inferInstance, inferInstance⟩
  rintro ρ ds L' ⟨rfl, rfl, e10, e11, e0, e1⟩
  repeat' (first|refine Gi0 fun _=>?_|refine Gi1 ?_|refine CW.drawsSw (id := 1) [0, 1, 2, 3, 4, 5, 6, 8, 9, 10] [7, 11] 12 [13, 14, 15] mixed (by kernel_rfl) ?_|refine CW.drawsP (id := 3) [0,1,2,3,4,5,6,7,8,9,10,11,12,13] mixed (by kernel_rfl) ?_|refine CW.drawsP (id := 5) [0,1,2,3,4,5,6,7,8,9,10,11,12,13,14] mixed (by kernel_rfl) ?_|refine CW.drawsSw (id := 8) [0, 1, 2, 3, 4, 5, 6, 8, 9, 10] [7, 11] 12 [13, 14, 15] mixed (by kernel_rfl) ?_|refine CW.drawsSw (id := 10) [0, 1, 2, 3, 4, 5, 6, 8, 9, 10] [7, 11] 12 [13, 14, 15] mixed (by kernel_rfl) ?_|refine CW.drawsP (id := 13) [0,1,2,3,4,5,6,7,8,9,10,11,12,13] mixed (by kernel_rfl) ?_|refine CW.drawsP (id := 15) [0,1,2,3,4,5,6,7,8,9,10,11,12,13,14] mixed (by kernel_rfl) ?_|refine CW.drawsSw (id := 18) [0, 1, 2, 3, 4, 5, 6, 8, 9, 10] [7, 11] 12 [13, 14, 15] mixed (by kernel_rfl) ?_|refine CW.drawsSw (id := 21) [0, 1, 2, 3, 4, 5, 6, 8, 9, 10] [7, 11] 12 [13, 14, 15] mixed (by kernel_rfl) ?_|refine Gi2 (fun _=>?_) fun _=>?_|refine Gi3 ?_|refine Gi4 fun _=>?_|fail)
  refine CW.loopE 2 (fun ρ ds L' => ds = [] ∧ L' = (b, .cells (kvs .u32 d' ++ rest).toArray 25 (0, 0)) :: L ∧ Ev ρ 10 (.int .i64 (i2 : Int)) ∧ Ev ρ 11 (.int .i64 (j2 : Int)) ∧ Ev ρ 0 (.slice (some ⟨b, 0, none⟩) m cap) ∧ Ev ρ 1 (.int .i64 lo)) (fun k ρ ds L' => ds = [] ∧ (∃ j', L' = (b, .cells (kvs .u32 d' ++ rest).toArray 25 (0, 0)) :: L ∧ j' ≤ j ∧ j' = k ∧ scanDown (fun x => !ltInt x d'[lo]!) d' i2 j' = j2 ∧ Ev ρ 11 (.int .i64 (j' : Int))) ∧ Ev ρ 10 (.int .i64 (i2 : Int)) ∧ Ev ρ 0 (.slice (some ⟨b, 0, none⟩) m cap) ∧ Ev ρ 1 (.int .i64 lo)) j
    ⟨rfl, ⟨j, rfl, Nat.le_refl _, rfl, h2j, inferInstance⟩, inferInstance, inferInstance, inferInstance⟩ ?_ ?_
  · rintro k ρ ds L' ⟨rfl, ⟨j', rfl, hj1, rfl, hsd, e11⟩, e10, e0, e1⟩
    by_cases hle2 : i2 ≤ j'
    · have l4 : LtS j' d'.size := ⟨by rw [hd'.size]; omega⟩
      obtain ⟨j', rfl⟩ : ∃ t, j' = t + 1 := ⟨j' - 1, by omega⟩
      repeat' (first|refine Gi0 fun _=>?_|refine Gi1 ?_|refine CW.drawsSw (id := 1) [0, 1, 2, 3, 4, 5, 6, 8, 9, 10] [7, 11] 12 [13, 14, 15] mixed (by kernel_rfl) ?_|refine CW.drawsP (id := 3) [0,1,2,3,4,5,6,7,8,9,10,11,12,13] mixed (by kernel_rfl) ?_|refine CW.drawsP (id := 5) [0,1,2,3,4,5,6,7,8,9,10,11,12,13,14] mixed (by kernel_rfl) ?_|refine CW.drawsSw (id := 8) [0, 1, 2, 3, 4, 5, 6, 8, 9, 10] [7, 11] 12 [13, 14, 15] mixed (by kernel_rfl) ?_|refine CW.drawsSw (id := 10) [0, 1, 2, 3, 4, 5, 6, 8, 9, 10] [7, 11] 12 [13, 14, 15] mixed (by kernel_rfl) ?_|refine CW.drawsP (id := 13) [0,1,2,3,4,5,6,7,8,9,10,11,12,13] mixed (by kernel_rfl) ?_|refine CW.drawsP (id := 15) [0,1,2,3,4,5,6,7,8,9,10,11,12,13,14] mixed (by kernel_rfl) ?_|refine CW.drawsSw (id := 18) [0, 1, 2, 3, 4, 5, 6, 8, 9, 10] [7, 11] 12 [13, 14, 15] mixed (by kernel_rfl) ?_|refine CW.drawsSw (id := 21) [0, 1, 2, 3, 4, 5, 6, 8, 9, 10] [7, 11] 12 [13, 14, 15] mixed (by kernel_rfl) ?_|refine Gi2 (fun _=>?_) fun _=>?_|refine Gi3 ?_|refine Gi4 fun _=>?_|fail)
      refine RW.call (lessU _ _ _) ?_
      rintro _ _ ⟨rfl, rfl⟩
      refine pinAll ?_
      cases hc2 : ltInt d'[j' + 1]! d'[lo]! with
      | false =>
        rw [down_step hle2 (by rw [hc2]; rfl)] at hsd
        repeat' (first|refine Gi0 fun _=>?_|refine Gi1 ?_|refine CW.drawsSw (id := 1) [0, 1, 2, 3, 4, 5, 6, 8, 9, 10] [7, 11] 12 [13, 14, 15] mixed (by kernel_rfl) ?_|refine CW.drawsP (id := 3) [0,1,2,3,4,5,6,7,8,9,10,11,12,13] mixed (by kernel_rfl) ?_|refine CW.drawsP (id := 5) [0,1,2,3,4,5,6,7,8,9,10,11,12,13,14] mixed (by kernel_rfl) ?_|refine CW.drawsSw (id := 8) [0, 1, 2, 3, 4, 5, 6, 8, 9, 10] [7, 11] 12 [13, 14, 15] mixed (by kernel_rfl) ?_|refine CW.drawsSw (id := 10) [0, 1, 2, 3, 4, 5, 6, 8, 9, 10] [7, 11] 12 [13, 14, 15] mixed (by kernel_rfl) ?_|refine CW.drawsP (id := 13) [0,1,2,3,4,5,6,7,8,9,10,11,12,13] mixed (by kernel_rfl) ?_|refine CW.drawsP (id := 15) [0,1,2,3,4,5,6,7,8,9,10,11,12,13,14] mixed (by kernel_rfl) ?_|refine CW.drawsSw (id := 18) [0, 1, 2, 3, 4, 5, 6, 8, 9, 10] [7, 11] 12 [13, 14, 15] mixed (by kernel_rfl) ?_|refine CW.drawsSw (id := 21) [0, 1, 2, 3, 4, 5, 6, 8, 9, 10] [7, 11] 12 [13, 14, 15] mixed (by kernel_rfl) ?_|refine Gi2 (fun _=>?_) fun _=>?_|refine Gi3 ?_|refine Gi4 fun _=>?_|fail)
        rw [show ((j' + 1 : Nat) : Int) - 1 = (j' : Int) by omega]
        exact ⟨j', by omega, rfl, ⟨j', rfl, by omega, rfl, hsd, inferInstance⟩, inferInstance, inferInstance, inferInstance⟩
      | true =>
        rw [down_end (by omega) (by rw [hc2]; simp)] at hsd
        rw [← hsd]
        repeat' (first|refine Gi0 fun _=>?_|refine Gi1 ?_|refine CW.drawsSw (id := 1) [0, 1, 2, 3, 4, 5, 6, 8, 9, 10] [7, 11] 12 [13, 14, 15] mixed (by kernel_rfl) ?_|refine CW.drawsP (id := 3) [0,1,2,3,4,5,6,7,8,9,10,11,12,13] mixed (by kernel_rfl) ?_|refine CW.drawsP (id := 5) [0,1,2,3,4,5,6,7,8,9,10,11,12,13,14] mixed (by kernel_rfl) ?_|refine CW.drawsSw (id := 8) [0, 1, 2, 3, 4, 5, 6, 8, 9, 10] [7, 11] 12 [13, 14, 15] mixed (by kernel_rfl) ?_|refine CW.drawsSw (id := 10) [0, 1, 2, 3, 4, 5, 6, 8, 9, 10] [7, 11] 12 [13, 14, 15] mixed (by kernel_rfl) ?_|refine CW.drawsP (id := 13) [0,1,2,3,4,5,6,7,8,9,10,11,12,13] mixed (by kernel_rfl) ?_|refine CW.drawsP (id := 15) [0,1,2,3,4,5,6,7,8,9,10,11,12,13,14] mixed (by kernel_rfl) ?_|refine CW.drawsSw (id := 18) [0, 1, 2, 3, 4, 5, 6, 8, 9, 10] [7, 11] 12 [13, 14, 15] mixed (by kernel_rfl) ?_|refine CW.drawsSw (id := 21) [0, 1, 2, 3, 4, 5, 6, 8, 9, 10] [7, 11] 12 [13, 14, 15] mixed (by kernel_rfl) ?_|refine Gi2 (fun _=>?_) fun _=>?_|refine Gi3 ?_|refine Gi4 fun _=>?_|fail)
        exact exitK_to ⟨rfl, rfl, inferInstance, inferInstance, inferInstance, inferInstance⟩
    · rw [down_end (by omega) (fun h => hle2 h.1)] at hsd
      rw [← hsd]
      repeat' (first|refine Gi0 fun _=>?_|refine Gi1 ?_|refine CW.drawsSw (id := 1) [0, 1, 2, 3, 4, 5, 6, 8, 9, 10] [7, 11] 12 [13, 14, 15] mixed (by kernel_rfl) ?_|refine CW.drawsP (id := 3) [0,1,2,3,4,5,6,7,8,9,10,11,12,13] mixed (by kernel_rfl) ?_|refine CW.drawsP (id := 5) [0,1,2,3,4,5,6,7,8,9,10,11,12,13,14] mixed (by kernel_rfl) ?_|refine CW.drawsSw (id := 8) [0, 1, 2, 3, 4, 5, 6, 8, 9, 10] [7, 11] 12 [13, 14, 15] mixed (by kernel_rfl) ?_|refine CW.drawsSw (id := 10) [0, 1, 2, 3, 4, 5, 6, 8, 9, 10] [7, 11] 12 [13, 14, 15] mixed (by kernel_rfl) ?_|refine CW.drawsP (id := 13) [0,1,2,3,4,5,6,7,8,9,10,11,12,13] mixed (by kernel_rfl) ?_|refine CW.drawsP (id := 15) [0,1,2,3,4,5,6,7,8,9,10,11,12,13,14] mixed (by kernel_rfl) ?_|refine CW.drawsSw (id := 18) [0, 1, 2, 3, 4, 5, 6, 8, 9, 10] [7, 11] 12 [13, 14, 15] mixed (by kernel_rfl) ?_|refine CW.drawsSw (id := 21) [0, 1, 2, 3, 4, 5, 6, 8, 9, 10] [7, 11] 12 [13, 14, 15] mixed (by kernel_rfl) ?_|refine Gi2 (fun _=>?_) fun _=>?_|refine Gi3 ?_|refine Gi4 fun _=>?_|fail)
      exact exitK_to ⟨rfl, rfl, inferInstance, inferInstance, inferInstance, inferInstance⟩
  rintro ρ ds L' ⟨rfl, rfl, e10, e11, e0, e1⟩
  have l4 : LtS j2 d'.size := ⟨by rw [hd'.size]; omega⟩
  by_cases hgt : i2 > j2
  · rw [if_pos hgt] at hr
    rw [hr]
    repeat' (first|refine Gi0 fun _=>?_|refine Gi1 ?_|refine CW.drawsSw (id := 1) [0, 1, 2, 3, 4, 5, 6, 8, 9, 10] [7, 11] 12 [13, 14, 15] mixed (by kernel_rfl) ?_|refine CW.drawsP (id := 3) [0,1,2,3,4,5,6,7,8,9,10,11,12,13] mixed (by kernel_rfl) ?_|refine CW.drawsP (id := 5) [0,1,2,3,4,5,6,7,8,9,10,11,12,13,14] mixed (by kernel_rfl) ?_|refine CW.drawsSw (id := 8) [0, 1, 2, 3, 4, 5, 6, 8, 9, 10] [7, 11] 12 [13, 14, 15] mixed (by kernel_rfl) ?_|refine CW.drawsSw (id := 10) [0, 1, 2, 3, 4, 5, 6, 8, 9, 10] [7, 11] 12 [13, 14, 15] mixed (by kernel_rfl) ?_|refine CW.drawsP (id := 13) [0,1,2,3,4,5,6,7,8,9,10,11,12,13] mixed (by kernel_rfl) ?_|refine CW.drawsP (id := 15) [0,1,2,3,4,5,6,7,8,9,10,11,12,13,14] mixed (by kernel_rfl) ?_|refine CW.drawsSw (id := 18) [0, 1, 2, 3, 4, 5, 6, 8, 9, 10] [7, 11] 12 [13, 14, 15] mixed (by kernel_rfl) ?_|refine CW.drawsSw (id := 21) [0, 1, 2, 3, 4, 5, 6, 8, 9, 10] [7, 11] 12 [13, 14, 15] mixed (by kernel_rfl) ?_|refine Gi2 (fun _=>?_) fun _=>?_|refine Gi3 ?_|refine Gi4 fun _=>?_|fail)
    exact bodyK.ret (Res.two Tryz.results97) ⟨rfl, rfl⟩
  · rw [if_neg hgt] at hr
    have l3 : LtS i2 d'.size := ⟨by rw [hd'.size]; omega⟩
    rw [hr]
    clear hr
    repeat' (first|refine Gi0 fun _=>?_|refine Gi1 ?_|refine CW.drawsSw (id := 1) [0, 1, 2, 3, 4, 5, 6, 8, 9, 10] [7, 11] 12 [13, 14, 15] mixed (by kernel_rfl) ?_|refine CW.drawsP (id := 3) [0,1,2,3,4,5,6,7,8,9,10,11,12,13] mixed (by kernel_rfl) ?_|refine CW.drawsP (id := 5) [0,1,2,3,4,5,6,7,8,9,10,11,12,13,14] mixed (by kernel_rfl) ?_|refine CW.drawsSw (id := 8) [0, 1, 2, 3, 4, 5, 6, 8, 9, 10] [7, 11] 12 [13, 14, 15] mixed (by kernel_rfl) ?_|refine CW.drawsSw (id := 10) [0, 1, 2, 3, 4, 5, 6, 8, 9, 10] [7, 11] 12 [13, 14, 15] mixed (by kernel_rfl) ?_|refine CW.drawsP (id := 13) [0,1,2,3,4,5,6,7,8,9,10,11,12,13] mixed (by kernel_rfl) ?_|refine CW.drawsP (id := 15) [0,1,2,3,4,5,6,7,8,9,10,11,12,13,14] mixed (by kernel_rfl) ?_|refine CW.drawsSw (id := 18) [0, 1, 2, 3, 4, 5, 6, 8, 9, 10] [7, 11] 12 [13, 14, 15] mixed (by kernel_rfl) ?_|refine CW.drawsSw (id := 21) [0, 1, 2, 3, 4, 5, 6, 8, 9, 10] [7, 11] 12 [13, 14, 15] mixed (by kernel_rfl) ?_|refine Gi2 (fun _=>?_) fun _=>?_|refine Gi3 ?_|refine Gi4 fun _=>?_|fail)
    rw [show (i2 : Int) + 1 = ((i2 + 1 : Nat) : Int) by omega, show (j2 : Int) - 1 = ((j2 - 1 : Nat) : Int) by omega]
    have e9 := swp_eq d' i2 j2
    rw [e9]
    clear e9
    have hd2 : Srt m (swp d' i2 j2) := hd'.swp i2 j2
    have hb2 : lo < i2 + 1 ∧ i2 + 1 ≤ j2 - 1 + 2 ∧ j2 - 1 < m ∧ lo < m := by omega
    generalize swp d' i2 j2 = d0 at *
    generalize i2 + 1 = i0 at *
    generalize j2 - 1 = j0 at *
    obtain ⟨hb1, hb2, hb3, hb4⟩ := hb2
    refine CW.loopE 4 (fun ρ ds L' => ds = [] ∧ L' = (b, .cells (kvs .u32 (partLoop ltInt lo i0 j0 d0).2 ++ rest).toArray 25 (0, 0)) :: L ∧ Srt m (partLoop ltInt lo i0 j0 d0).2 ∧ (partLoop ltInt lo i0 j0 d0).1 < m ∧ Ev ρ 11 (.int .i64 ((partLoop ltInt lo i0 j0 d0).1 : Int)) ∧ Ev ρ 0 (.slice (some ⟨b, 0, none⟩) m cap) ∧ Ev ρ 1 (.int .i64 lo))
      (fun k ρ ds L' => ds = [] ∧ (∃ i j d', L' = (b, .cells (kvs .u32 d' ++ rest).toArray 25 (0, 0)) :: L ∧ Srt m d' ∧ lo < i ∧ i ≤ j + 2 ∧ j < m ∧ k = j + 1 - i ∧ partLoop ltInt lo i j d' = partLoop ltInt lo i0 j0 d0 ∧ Ev ρ 10 (.int .i64 (i : Int)) ∧ Ev ρ 11 (.int .i64 (j : Int))) ∧ Ev ρ 0 (.slice (some ⟨b, 0, none⟩) m cap) ∧ Ev ρ 1 (.int .i64 lo)) (j0 + 1 - i0)
      ⟨rfl, ⟨i0, j0, d0, rfl, hd2, by omega, by omega, by omega, rfl, rfl, inferInstance, inferInstance⟩, inferInstance, inferInstance⟩ ?_ ?_
    · rintro k ρ ds L' ⟨rfl, ⟨i, j, d', rfl, hd', hi0, hij, hj, rfl, hfin, e10, e11⟩, e0, e1⟩
      have l1' : LtS lo d'.size := ⟨by rw [hd'.size]; omega⟩
      obtain ⟨u1, u2, _, _⟩ := scanUp_spec (fun x => ltInt x d'[lo]!) d' j _ i rfl
      obtain ⟨w1, w2, _, _⟩ := scanDown_spec (fun x => !ltInt x d'[lo]!) d' (scanUp (fun x => ltInt x d'[lo]!) d' j i) j
      obtain ⟨i2, h2i⟩ : ∃ r, scanUp (fun x => ltInt x d'[lo]!) d' j i = r := ⟨_, rfl⟩
      rw [h2i] at u1 u2 w1 w2
      obtain ⟨j2, h2j⟩ : ∃ r, scanDown (fun x => !ltInt x d'[lo]!) d' i2 j = r := ⟨_, rfl⟩
      rw [h2j] at w1 w2
      rw [partLoop_two i2 j2 h2i h2j] at hfin
      repeat' (first|refine Gi0 fun _=>?_|refine Gi1 ?_|refine CW.drawsSw (id := 1) [0, 1, 2, 3, 4, 5, 6, 8, 9, 10] [7, 11] 12 [13, 14, 15] mixed (by kernel_rfl) ?_|refine CW.drawsP (id := 3) [0,1,2,3,4,5,6,7,8,9,10,11,12,13] mixed (by kernel_rfl) ?_|refine CW.drawsP (id := 5) [0,1,2,3,4,5,6,7,8,9,10,11,12,13,14] mixed (by kernel_rfl) ?_|refine CW.drawsSw (id := 8) [0, 1, 2, 3, 4, 5, 6, 8, 9, 10] [7, 11] 12 [13, 14, 15] mixed (by kernel_rfl) ?_|refine CW.drawsSw (id := 10) [0, 1, 2, 3, 4, 5, 6, 8, 9, 10] [7, 11] 12 [13, 14, 15] mixed (by kernel_rfl) ?_|refine CW.drawsP (id := 13) [0,1,2,3,4,5,6,7,8,9,10,11,12,13] mixed (by kernel_rfl) ?_|refine CW.drawsP (id := 15) [0,1,2,3,4,5,6,7,8,9,10,11,12,13,14] mixed (by kernel_rfl) ?_|refine CW.drawsSw (id := 18) [0, 1, 2, 3, 4, 5, 6, 8, 9, 10] [7, 11] 12 [13, 14, 15] mixed (by kernel_rfl) ?_|refine CW.drawsSw (id := 21) [0, 1, 2, 3, 4, 5, 6, 8, 9, 10] [7, 11] 12 [13, 14, 15] mixed (by kernel_rfl) ?_|refine Gi2 (fun _=>?_) fun _=>?_|refine Gi3 ?_|refine Gi4 fun _=>?_|fail)
      refine CW.loopE 6 (fun ρ ds L' => ds = [] ∧ L' = (b, .cells (kvs .u32 d' ++ rest).toArray 25 (0, 0)) :: L ∧ Ev ρ 10 (.int .i64 (i2 : Int)) ∧ Ev ρ 11 (.int .i64 (j : Int)) ∧ Ev ρ 0 (.slice (some ⟨b, 0, none⟩) m cap) ∧ Ev ρ 1 (.int .i64 lo)) (fun k ρ ds L' => ds = [] ∧ (∃ i', L' = (b, .cells (kvs .u32 d' ++ rest).toArray 25 (0, 0)) :: L ∧ i' ≤ j + 2 ∧ k = j + 1 - i' ∧ scanUp (fun x => ltInt x d'[lo]!) d' j i' = i2 ∧ Ev ρ 10 (.int .i64 (i' : Int))) ∧ Ev ρ 11 (.int .i64 (j : Int)) ∧ Ev ρ 0 (.slice (some ⟨b, 0, none⟩) m cap) ∧ Ev ρ 1 (.int .i64 lo)) (j + 1 - i)
        ⟨rfl, ⟨i, rfl, by omega, rfl, h2i, inferInstance⟩, inferInstance, inferInstance, inferInstance⟩ ?_ ?_
      · rintro k ρ ds L' ⟨rfl, ⟨i', rfl, hi2, rfl, hsc, e10⟩, e11, e0, e1⟩
        by_cases hle : i' ≤ j
        · have l3 : LtS i' d'.size := ⟨by rw [hd'.size]; omega⟩
          repeat' (first|refine Gi0 fun _=>?_|refine Gi1 ?_|refine CW.drawsSw (id := 1) [0, 1, 2, 3, 4, 5, 6, 8, 9, 10] [7, 11] 12 [13, 14, 15] mixed (by kernel_rfl) ?_|refine CW.drawsP (id := 3) [0,1,2,3,4,5,6,7,8,9,10,11,12,13] mixed (by kernel_rfl) ?_|refine CW.drawsP (id := 5) [0,1,2,3,4,5,6,7,8,9,10,11,12,13,14] mixed (by kernel_rfl) ?_|refine CW.drawsSw (id := 8) [0, 1, 2, 3, 4, 5, 6, 8, 9, 10] [7, 11] 12 [13, 14, 15] mixed (by kernel_rfl) ?_|refine CW.drawsSw (id := 10) [0, 1, 2, 3, 4, 5, 6, 8, 9, 10] [7, 11] 12 [13, 14, 15] mixed (by kernel_rfl) ?_|refine CW.drawsP (id := 13) [0,1,2,3,4,5,6,7,8,9,10,11,12,13] mixed (by kernel_rfl) ?_|refine CW.drawsP (id := 15) [0,1,2,3,4,5,6,7,8,9,10,11,12,13,14] mixed (by kernel_rfl) ?_|refine CW.drawsSw (id := 18) [0, 1, 2, 3, 4, 5, 6, 8, 9, 10] [7, 11] 12 [13, 14, 15] mixed (by kernel_rfl) ?_|refine CW.drawsSw (id := 21) [0, 1, 2, 3, 4, 5, 6, 8, 9, 10] [7, 11] 12 [13, 14, 15] mixed (by kernel_rfl) ?_|refine Gi2 (fun _=>?_) fun _=>?_|refine Gi3 ?_|refine Gi4 fun _=>?_|fail)
          refine RW.call (lessU _ _ _) ?_
          rintro _ _ ⟨rfl, rfl⟩
          refine pinAll ?_
          cases hc : ltInt d'[i']! d'[lo]! with
          | true =>
            rw [up_step hle hc] at hsc
            repeat' (first|refine Gi0 fun _=>?_|refine Gi1 ?_|refine CW.drawsSw (id := 1) [0, 1, 2, 3, 4, 5, 6, 8, 9, 10] [7, 11] 12 [13, 14, 15] mixed (by kernel_rfl) ?_|refine CW.drawsP (id := 3) [0,1,2,3,4,5,6,7,8,9,10,11,12,13] mixed (by kernel_rfl) ?_|refine CW.drawsP (id := 5) [0,1,2,3,4,5,6,7,8,9,10,11,12,13,14] mixed (by kernel_rfl) ?_|refine CW.drawsSw (id := 8) [0, 1, 2, 3, 4, 5, 6, 8, 9, 10] [7, 11] 12 [13, 14, 15] mixed (by kernel_rfl) ?_|refine CW.drawsSw (id := 10) [0, 1, 2, 3, 4, 5, 6, 8, 9, 10] [7, 11] 12 [13, 14, 15] mixed (by kernel_rfl) ?_|refine CW.drawsP (id := 13) [0,1,2,3,4,5,6,7,8,9,10,11,12,13] mixed (by kernel_rfl) ?_|refine CW.drawsP (id := 15) [0,1,2,3,4,5,6,7,8,9,10,11,12,13,14] mixed (by kernel_rfl) ?_|refine CW.drawsSw (id := 18) [0, 1, 2, 3, 4, 5, 6, 8, 9, 10] [7, 11] 12 [13, 14, 15] mixed (by kernel_rfl) ?_|refine CW.drawsSw (id := 21) [0, 1, 2, 3, 4, 5, 6, 8, 9, 10] [7, 11] 12 [13, 14, 15] mixed (by kernel_rfl) ?_|refine Gi2 (fun _=>?_) fun _=>?_|refine Gi3 ?_|refine Gi4 fun _=>?_|fail)
            rw [show (i' : Int) + 1 = ((i' + 1 : Nat) : Int) by omega]
            exact ⟨j + 1 - (i' + 1), by omega, rfl, ⟨i' + 1, rfl, by omega, rfl, hsc, inferInstance⟩, inferInstance, inferInstance, inferInstance⟩
          | false =>
            rw [up_end (by rw [hc]; simp)] at hsc
            subst hsc
            repeat' (first|refine Gi0 fun _=>?_|refine Gi1 ?_|refine CW.drawsSw (id := 1) [0, 1, 2, 3, 4, 5, 6, 8, 9, 10] [7, 11] 12 [13, 14, 15] mixed (by kernel_rfl) ?_|refine CW.drawsP (id := 3) [0,1,2,3,4,5,6,7,8,9,10,11,12,13] mixed (by kernel_rfl) ?_|refine CW.drawsP (id := 5) [0,1,2,3,4,5,6,7,8,9,10,11,12,13,14] mixed (by kernel_rfl) ?_|refine CW.drawsSw (id := 8) [0, 1, 2, 3, 4, 5, 6, 8, 9, 10] [7, 11] 12 [13, 14, 15] mixed (by kernel_rfl) ?_|refine CW.drawsSw (id := 10) [0, 1, 2, 3, 4, 5, 6, 8, 9, 10] [7, 11] 12 [13, 14, 15] mixed (by kernel_rfl) ?_|refine CW.drawsP (id := 13) [0,1,2,3,4,5,6,7,8,9,10,11,12,13] mixed (by kernel_rfl) ?_|refine CW.drawsP (id := 15) [0,1,2,3,4,5,6,7,8,9,10,11,12,13,14] mixed (by kernel_rfl) ?_|refine CW.drawsSw (id := 18) [0, 1, 2, 3, 4, 5, 6, 8, 9, 10] [7, 11] 12 [13, 14, 15] mixed (by kernel_rfl) ?_|refine CW.drawsSw (id := 21) [0, 1, 2, 3, 4, 5, 6, 8, 9, 10] [7, 11] 12 [13, 14, 15] mixed (by kernel_rfl) ?_|refine Gi2 (fun _=>?_) fun _=>?_|refine Gi3 ?_|refine Gi4 fun _=>?_|fail)
            exact exitK_to ⟨rfl, rfl, inferInstance, inferInstance, inferInstance, inferInstance⟩
        · rw [up_end (fun h => hle h.1)] at hsc
          subst hsc
          repeat' (first|refine Gi0 fun _=>?_|refine Gi1 ?_|refine CW.drawsSw (id := 1) [0, 1, 2, 3, 4, 5, 6, 8, 9, 10] [7, 11] 12 [13, 14, 15] mixed (by kernel_rfl) ?_|refine CW.drawsP (id := 3) [0,1,2,3,4,5,6,7,8,9,10,11,12,13] mixed (by kernel_rfl) ?_|refine CW.drawsP (id := 5) [0,1,2,3,4,5,6,7,8,9,10,11,12,13,14] mixed (by kernel_rfl) ?_|refine CW.drawsSw (id := 8) [0, 1, 2, 3, 4, 5, 6, 8, 9, 10] [7, 11] 12 [13, 14, 15] mixed (by kernel_rfl) ?_|refine CW.drawsSw (id := 10) [0, 1, 2, 3, 4, 5, 6, 8, 9, 10] [7, 11] 12 [13, 14, 15] mixed (by kernel_rfl) ?_|refine CW.drawsP (id := 13) [0,1,2,3,4,5,6,7,8,9,10,11,12,13] mixed (by kernel_rfl) ?_|refine CW.drawsP (id := 15) [0,1,2,3,4,5,6,7,8,9,10,11,12,13,14] mixed (by kernel_rfl) ?_|refine CW.drawsSw (id := 18) [0, 1, 2, 3, 4, 5, 6, 8, 9, 10] [7, 11] 12 [13, 14, 15] mixed (by kernel_rfl) ?_|refine CW.drawsSw (id := 21) [0, 1, 2, 3, 4, 5, 6, 8, 9, 10] [7, 11] 12 [13, 14, 15] mixed (by kernel_rfl) ?_|refine Gi2 (fun _=>?_) fun _=>?_|refine Gi3 ?_|refine Gi4 fun _=>?_|fail)
          exact exitK_to ⟨rfl, rfl, inferInstance, inferInstance, inferInstance, inferInstance⟩
      rintro ρ ds L' ⟨rfl, rfl, e10, e11, e0, e1⟩
      repeat' (first|refine Gi0 fun _=>?_|refine Gi1 ?_|refine CW.drawsSw (id := 1) [0, 1, 2, 3, 4, 5, 6, 8, 9, 10] [7, 11] 12 [13, 14, 15] mixed (by kernel_rfl) ?_|refine CW.drawsP (id := 3) [0,1,2,3,4,5,6,7,8,9,10,11,12,13] mixed (by kernel_rfl) ?_|refine CW.drawsP (id := 5) [0,1,2,3,4,5,6,7,8,9,10,11,12,13,14] mixed (by kernel_rfl) ?_|refine CW.drawsSw (id := 8) [0, 1, 2, 3, 4, 5, 6, 8, 9, 10] [7, 11] 12 [13, 14, 15] mixed (by kernel_rfl) ?_|refine CW.drawsSw (id := 10) [0, 1, 2, 3, 4, 5, 6, 8, 9, 10] [7, 11] 12 [13, 14, 15] mixed (by kernel_rfl) ?_|refine CW.drawsP (id := 13) [0,1,2,3,4,5,6,7,8,9,10,11,12,13] mixed (by kernel_rfl) ?_|refine CW.drawsP (id := 15) [0,1,2,3,4,5,6,7,8,9,10,11,12,13,14] mixed (by kernel_rfl) ?_|refine CW.drawsSw (id := 18) [0, 1, 2, 3, 4, 5, 6, 8, 9, 10] [7, 11] 12 [13, 14, 15] mixed (by kernel_rfl) ?_|refine CW.drawsSw (id := 21) [0, 1, 2, 3, 4, 5, 6, 8, 9, 10] [7, 11] 12 [13, 14, 15] mixed (by kernel_rfl) ?_|refine Gi2 (fun _=>?_) fun _=>?_|refine Gi3 ?_|refine Gi4 fun _=>?_|fail)
      refine CW.loopE 8 (fun ρ ds L' => ds = [] ∧ L' = (b, .cells (kvs .u32 d' ++ rest).toArray 25 (0, 0)) :: L ∧ Ev ρ 10 (.int .i64 (i2 : Int)) ∧ Ev ρ 11 (.int .i64 (j2 : Int)) ∧ Ev ρ 0 (.slice (some ⟨b, 0, none⟩) m cap) ∧ Ev ρ 1 (.int .i64 lo)) (fun k ρ ds L' => ds = [] ∧ (∃ j', L' = (b, .cells (kvs .u32 d' ++ rest).toArray 25 (0, 0)) :: L ∧ j' ≤ j ∧ j' = k ∧ scanDown (fun x => !ltInt x d'[lo]!) d' i2 j' = j2 ∧ Ev ρ 11 (.int .i64 (j' : Int))) ∧ Ev ρ 10 (.int .i64 (i2 : Int)) ∧ Ev ρ 0 (.slice (some ⟨b, 0, none⟩) m cap) ∧ Ev ρ 1 (.int .i64 lo)) j
        ⟨rfl, ⟨j, rfl, Nat.le_refl _, rfl, h2j, inferInstance⟩, inferInstance, inferInstance, inferInstance⟩ ?_ ?_
      · rintro k ρ ds L' ⟨rfl, ⟨j', rfl, hj1, rfl, hsd, e11⟩, e10, e0, e1⟩
        by_cases hle2 : i2 ≤ j'
        · have l4 : LtS j' d'.size := ⟨by rw [hd'.size]; omega⟩
          obtain ⟨j', rfl⟩ : ∃ t, j' = t + 1 := ⟨j' - 1, by omega⟩
          repeat' (first|refine Gi0 fun _=>?_|refine Gi1 ?_|refine CW.drawsSw (id := 1) [0, 1, 2, 3, 4, 5, 6, 8, 9, 10] [7, 11] 12 [13, 14, 15] mixed (by kernel_rfl) ?_|refine CW.drawsP (id := 3) [0,1,2,3,4,5,6,7,8,9,10,11,12,13] mixed (by kernel_rfl) ?_|refine CW.drawsP (id := 5) [0,1,2,3,4,5,6,7,8,9,10,11,12,13,14] mixed (by kernel_rfl) ?_|refine CW.drawsSw (id := 8) [0, 1, 2, 3, 4, 5, 6, 8, 9, 10] [7, 11] 12 [13, 14, 15] mixed (by kernel_rfl) ?_|refine CW.drawsSw (id := 10) [0, 1, 2, 3, 4, 5, 6, 8, 9, 10] [7, 11] 12 [13, 14, 15] mixed (by kernel_rfl) ?_|refine CW.drawsP (id := 13) [0,1,2,3,4,5,6,7,8,9,10,11,12,13] mixed (by kernel_rfl) ?_|refine CW.drawsP (id := 15) [0,1,2,3,4,5,6,7,8,9,10,11,12,13,14] mixed (by kernel_rfl) ?_|refine CW.drawsSw (id := 18) [0, 1, 2, 3, 4, 5, 6, 8, 9, 10] [7, 11] 12 [13, 14, 15] mixed (by kernel_rfl) ?_|refine CW.drawsSw (id := 21) [0, 1, 2, 3, 4, 5, 6, 8, 9, 10] [7, 11] 12 [13, 14, 15] mixed (by kernel_rfl) ?_|refine Gi2 (fun _=>?_) fun _=>?_|refine Gi3 ?_|refine Gi4 fun _=>?_|fail)
          refine RW.call (lessU _ _ _) ?_
          rintro _ _ ⟨rfl, rfl⟩
          refine pinAll ?_
          cases hc2 : ltInt d'[j' + 1]! d'[lo]! with
          | false =>
            rw [down_step hle2 (by rw [hc2]; rfl)] at hsd
            repeat' (first|refine Gi0 fun _=>?_|refine Gi1 ?_|refine CW.drawsSw (id := 1) [0, 1, 2, 3, 4, 5, 6, 8, 9, 10] [7, 11] 12 [13, 14, 15] mixed (by kernel_rfl) ?_|refine CW.drawsP (id := 3) [0,1,2,3,4,5,6,7,8,9,10,11,12,13] mixed (by kernel_rfl) ?_|refine CW.drawsP (id := 5) [0,1,2,3,4,5,6,7,8,9,10,11,12,13,14] mixed (by kernel_rfl) ?_|refine CW.drawsSw (id := 8) [0, 1, 2, 3, 4, 5, 6, 8, 9, 10] [7, 11] 12 [13, 14, 15] mixed (by kernel_rfl) ?_|refine CW.drawsSw (id := 10) [0, 1, 2, 3, 4, 5, 6, 8, 9, 10] [7, 11] 12 [13, 14, 15] mixed (by kernel_rfl) ?_|refine CW.drawsP (id := 13) [0,1,2,3,4,5,6,7,8,9,10,11,12,13] mixed (by kernel_rfl) ?_|refine CW.drawsP (id := 15) [0,1,2,3,4,5,6,7,8,9,10,11,12,13,14] mixed (by kernel_rfl) ?_|refine CW.drawsSw (id := 18) [0, 1, 2, 3, 4, 5, 6, 8, 9, 10] [7, 11] 12 [13, 14, 15] mixed (by kernel_rfl) ?_|refine CW.drawsSw (id := 21) [0, 1, 2, 3, 4, 5, 6, 8, 9, 10] [7, 11] 12 [13, 14, 15] mixed (by kernel_rfl) ?_|refine Gi2 (fun _=>?_) fun _=>?_|refine Gi3 ?_|refine Gi4 fun _=>?_|fail)
            rw [show ((j' + 1 : Nat) : Int) - 1 = (j' : Int) by omega]
            exact ⟨j', by omega, rfl, ⟨j', rfl, by omega, rfl, hsd, inferInstance⟩, inferInstance, inferInstance, inferInstance⟩
          | true =>
            rw [down_end (by omega) (by rw [hc2]; simp)] at hsd
            rw [← hsd]
            repeat' (first|refine Gi0 fun _=>?_|refine Gi1 ?_|refine CW.drawsSw (id := 1) [0, 1, 2, 3, 4, 5, 6, 8, 9, 10] [7, 11] 12 [13, 14, 15] mixed (by kernel_rfl) ?_|refine CW.drawsP (id := 3) [0,1,2,3,4,5,6,7,8,9,10,11,12,13] mixed (by kernel_rfl) ?_|refine CW.drawsP (id := 5) [0,1,2,3,4,5,6,7,8,9,10,11,12,13,14] mixed (by kernel_rfl) ?_|refine CW.drawsSw (id := 8) [0, 1, 2, 3, 4, 5, 6, 8, 9, 10] [7, 11] 12 [13, 14, 15] mixed (by kernel_rfl) ?_|refine CW.drawsSw (id := 10) [0, 1, 2, 3, 4, 5, 6, 8, 9, 10] [7, 11] 12 [13, 14, 15] mixed (by kernel_rfl) ?_|refine CW.drawsP (id := 13) [0,1,2,3,4,5,6,7,8,9,10,11,12,13] mixed (by kernel_rfl) ?_|refine CW.drawsP (id := 15) [0,1,2,3,4,5,6,7,8,9,10,11,12,13,14] mixed (by kernel_rfl) ?_|refine CW.drawsSw (id := 18) [0, 1, 2, 3, 4, 5, 6, 8, 9, 10] [7, 11] 12 [13, 14, 15] mixed (by kernel_rfl) ?_|refine CW.drawsSw (id := 21) [0, 1, 2, 3, 4, 5, 6, 8, 9, 10] [7, 11] 12 [13, 14, 15] mixed (by kernel_rfl) ?_|refine Gi2 (fun _=>?_) fun _=>?_|refine Gi3 ?_|refine Gi4 fun _=>?_|fail)
            exact exitK_to ⟨rfl, rfl, inferInstance, inferInstance, inferInstance, inferInstance⟩
        · rw [down_end (by omega) (fun h => hle2 h.1)] at hsd
          rw [← hsd]
          repeat' (first|refine Gi0 fun _=>?_|refine Gi1 ?_|refine CW.drawsSw (id := 1) [0, 1, 2, 3, 4, 5, 6, 8, 9, 10] [7, 11] 12 [13, 14, 15] mixed (by kernel_rfl) ?_|refine CW.drawsP (id := 3) [0,1,2,3,4,5,6,7,8,9,10,11,12,13] mixed (by kernel_rfl) ?_|refine CW.drawsP (id := 5) [0,1,2,3,4,5,6,7,8,9,10,11,12,13,14] mixed (by kernel_rfl) ?_|refine CW.drawsSw (id := 8) [0, 1, 2, 3, 4, 5, 6, 8, 9, 10] [7, 11] 12 [13, 14, 15] mixed (by kernel_rfl) ?_|refine CW.drawsSw (id := 10) [0, 1, 2, 3, 4, 5, 6, 8, 9, 10] [7, 11] 12 [13, 14, 15] mixed (by kernel_rfl) ?_|refine CW.drawsP (id := 13) [0,1,2,3,4,5,6,7,8,9,10,11,12,13] mixed (by kernel_rfl) ?_|refine CW.drawsP (id := 15) [0,1,2,3,4,5,6,7,8,9,10,11,12,13,14] mixed (by kernel_rfl) ?_|refine CW.drawsSw (id := 18) [0, 1, 2, 3, 4, 5, 6, 8, 9, 10] [7, 11] 12 [13, 14, 15] mixed (by kernel_rfl) ?_|refine CW.drawsSw (id := 21) [0, 1, 2, 3, 4, 5, 6, 8, 9, 10] [7, 11] 12 [13, 14, 15] mixed (by kernel_rfl) ?_|refine Gi2 (fun _=>?_) fun _=>?_|refine Gi3 ?_|refine Gi4 fun _=>?_|fail)
          exact exitK_to ⟨rfl, rfl, inferInstance, inferInstance, inferInstance, inferInstance⟩
      rintro ρ ds L' ⟨rfl, rfl, e10, e11, e0, e1⟩
      have l4 : LtS j2 d'.size := ⟨by rw [hd'.size]; omega⟩
      by_cases hgt : i2 > j2
      · rw [if_pos hgt] at hfin
        rw [← hfin]
        repeat' (first|refine Gi0 fun _=>?_|refine Gi1 ?_|refine CW.drawsSw (id := 1) [0, 1, 2, 3, 4, 5, 6, 8, 9, 10] [7, 11] 12 [13, 14, 15] mixed (by kernel_rfl) ?_|refine CW.drawsP (id := 3) [0,1,2,3,4,5,6,7,8,9,10,11,12,13] mixed (by kernel_rfl) ?_|refine CW.drawsP (id := 5) [0,1,2,3,4,5,6,7,8,9,10,11,12,13,14] mixed (by kernel_rfl) ?_|refine CW.drawsSw (id := 8) [0, 1, 2, 3, 4, 5, 6, 8, 9, 10] [7, 11] 12 [13, 14, 15] mixed (by kernel_rfl) ?_|refine CW.drawsSw (id := 10) [0, 1, 2, 3, 4, 5, 6, 8, 9, 10] [7, 11] 12 [13, 14, 15] mixed (by kernel_rfl) ?_|refine CW.drawsP (id := 13) [0,1,2,3,4,5,6,7,8,9,10,11,12,13] mixed (by kernel_rfl) ?_|refine CW.drawsP (id := 15) [0,1,2,3,4,5,6,7,8,9,10,11,12,13,14] mixed (by kernel_rfl) ?_|refine CW.drawsSw (id := 18) [0, 1, 2, 3, 4, 5, 6, 8, 9, 10] [7, 11] 12 [13, 14, 15] mixed (by kernel_rfl) ?_|refine CW.drawsSw (id := 21) [0, 1, 2, 3, 4, 5, 6, 8, 9, 10] [7, 11] 12 [13, 14, 15] mixed (by kernel_rfl) ?_|refine Gi2 (fun _=>?_) fun _=>?_|refine Gi3 ?_|refine Gi4 fun _=>?_|fail)
        exact exitK_to ⟨rfl, rfl, hd', by show j2 < m; omega, inferInstance, inferInstance, inferInstance⟩
      · rw [if_neg hgt] at hfin
        have l3 : LtS i2 d'.size := ⟨by rw [hd'.size]; omega⟩
        repeat' (first|refine Gi0 fun _=>?_|refine Gi1 ?_|refine CW.drawsSw (id := 1) [0, 1, 2, 3, 4, 5, 6, 8, 9, 10] [7, 11] 12 [13, 14, 15] mixed (by kernel_rfl) ?_|refine CW.drawsP (id := 3) [0,1,2,3,4,5,6,7,8,9,10,11,12,13] mixed (by kernel_rfl) ?_|refine CW.drawsP (id := 5) [0,1,2,3,4,5,6,7,8,9,10,11,12,13,14] mixed (by kernel_rfl) ?_|refine CW.drawsSw (id := 8) [0, 1, 2, 3, 4, 5, 6, 8, 9, 10] [7, 11] 12 [13, 14, 15] mixed (by kernel_rfl) ?_|refine CW.drawsSw (id := 10) [0, 1, 2, 3, 4, 5, 6, 8, 9, 10] [7, 11] 12 [13, 14, 15] mixed (by kernel_rfl) ?_|refine CW.drawsP (id := 13) [0,1,2,3,4,5,6,7,8,9,10,11,12,13] mixed (by kernel_rfl) ?_|refine CW.drawsP (id := 15) [0,1,2,3,4,5,6,7,8,9,10,11,12,13,14] mixed (by kernel_rfl) ?_|refine CW.drawsSw (id := 18) [0, 1, 2, 3, 4, 5, 6, 8, 9, 10] [7, 11] 12 [13, 14, 15] mixed (by kernel_rfl) ?_|refine CW.drawsSw (id := 21) [0, 1, 2, 3, 4, 5, 6, 8, 9, 10] [7, 11] 12 [13, 14, 15] mixed (by kernel_rfl) ?_|refine Gi2 (fun _=>?_) fun _=>?_|refine Gi3 ?_|refine Gi4 fun _=>?_|fail)
        rw [show (i2 : Int) + 1 = ((i2 + 1 : Nat) : Int) by omega, show (j2 : Int) - 1 = ((j2 - 1 : Nat) : Int) by omega]
        exact ⟨j2 - 1 + 1 - (i2 + 1), by omega, rfl, ⟨i2 + 1, j2 - 1, swp d' i2 j2, rfl, hd'.swp _ _, by omega, by omega, by omega, rfl, hfin, inferInstance, inferInstance⟩, inferInstance, inferInstance⟩
    · rintro ρ ds L' ⟨rfl, rfl, hd3, hr3, e11, e0, e1⟩
      generalize partLoop ltInt lo i0 j0 d0 = r at *
      obtain ⟨r1, r2⟩ := r
      simp only at hd3 hr3 e11 ⊢
      have l3 : LtS r1 r2.size := ⟨by rw [hd3.size]; omega⟩
      have l4 : LtS lo r2.size := ⟨by rw [hd3.size]; omega⟩
      repeat' (first|refine Gi0 fun _=>?_|refine Gi1 ?_|refine CW.drawsSw (id := 1) [0, 1, 2, 3, 4, 5, 6, 8, 9, 10] [7, 11] 12 [13, 14, 15] mixed (by kernel_rfl) ?_|refine CW.drawsP (id := 3) [0,1,2,3,4,5,6,7,8,9,10,11,12,13] mixed (by kernel_rfl) ?_|refine CW.drawsP (id := 5) [0,1,2,3,4,5,6,7,8,9,10,11,12,13,14] mixed (by kernel_rfl) ?_|refine CW.drawsSw (id := 8) [0, 1, 2, 3, 4, 5, 6, 8, 9, 10] [7, 11] 12 [13, 14, 15] mixed (by kernel_rfl) ?_|refine CW.drawsSw (id := 10) [0, 1, 2, 3, 4, 5, 6, 8, 9, 10] [7, 11] 12 [13, 14, 15] mixed (by kernel_rfl) ?_|refine CW.drawsP (id := 13) [0,1,2,3,4,5,6,7,8,9,10,11,12,13] mixed (by kernel_rfl) ?_|refine CW.drawsP (id := 15) [0,1,2,3,4,5,6,7,8,9,10,11,12,13,14] mixed (by kernel_rfl) ?_|refine CW.drawsSw (id := 18) [0, 1, 2, 3, 4, 5, 6, 8, 9, 10] [7, 11] 12 [13, 14, 15] mixed (by kernel_rfl) ?_|refine CW.drawsSw (id := 21) [0, 1, 2, 3, 4, 5, 6, 8, 9, 10] [7, 11] 12 [13, 14, 15] mixed (by kernel_rfl) ?_|refine Gi2 (fun _=>?_) fun _=>?_|refine Gi3 ?_|refine Gi4 fun _=>?_|fail)
      exact bodyK.ret (Res.two Tryz.results97) ⟨rfl, rfl⟩
end Go.Proofs.YtocjgcmgkaabiaaGreat

namespace Go.Proofs.YtocjgcmgkaabiaaGreat
open Go Go.Pw Go.Sort
set_option maxRecDepth 100000
set_option maxHeartbeats 4000000
set_option synthInstance.maxHeartbeats 400000
set_option synthInstance.maxSize 2000
attribute [local irreducible] CW OW RW thenK blockK
attribute [local irreducible] scopeK loopK TRW ATW

theorem sd_eq {j : Nat} {d : Array Int} : shiftDown ltInt (j + 1) d = if ltInt d[j + 1]! d[j]! then shiftDown ltInt j (swp d (j + 1) j) else d := by
  rw [shiftDown]
  cases ltInt d[j + 1]! d[j]! <;> rfl
theorem sdS {m : Nat} : ∀ {j : Nat} {d : Array Int}, Srt m d → Srt m (shiftDown ltInt j d)
  | 0, d, h => h
  | j + 1, d, h => by
    rw [sd_eq]
    split
    · exact sdS (h.swp _ _)
    · exact h
theorem su_step {hi j : Nat} {d : Array Int} (h : j < hi) (hl : ltInt d[j]! d[j - 1]! = true) : shiftUp ltInt hi j d = shiftUp ltInt hi (j + 1) (swp d j (j - 1)) := by
  rw [shiftUp]; rw [if_pos h, hl]; rfl
theorem su_end {hi j : Nat} {d : Array Int} (h : ¬ (j < hi ∧ ltInt d[j]! d[j - 1]! = true)) : shiftUp ltInt hi j d = d := by
  rw [shiftUp]
  split
  · rename_i hj
    have : ltInt d[j]! d[j - 1]! = false := by
      cases hc : ltInt d[j]! d[j - 1]! with
      | false => rfl
      | true => exact absurd ⟨hj, hc⟩ h
    rw [this]; rfl
  · rfl
theorem suS {m hi : Nat} : ∀ {j : Nat} {d : Array Int}, Srt m d → Srt m (shiftUp ltInt hi j d) := by
  have key : ∀ (n j : Nat) (d : Array Int), hi - j ≤ n → Srt m d → Srt m (shiftUp ltInt hi j d) := fun n => by
    induction n with
    | zero => intro j d hn h; rw [su_end (fun h => by omega)]; exact h
    | succ n ih =>
      intro j d hn h
      by_cases hc : j < hi ∧ ltInt d[j]! d[j - 1]! = true
      · rw [su_step hc.1 hc.2]; exact ih _ _ (by omega) (h.swp _ _)
      · rw [su_end hc]; exact h
  intro j d h
  exact key _ j d (Nat.le_refl _) h
theorem ss_step {hi i : Nat} {d : Array Int} (h : i < hi) (hl : ltInt d[i]! d[i - 1]! = false) : scanSorted ltInt d hi i = scanSorted ltInt d hi (i + 1) := by
  rw [scanSorted]; rw [if_pos (by rw [decide_eq_true h, hl]; rfl)]
theorem ss_end {hi i : Nat} {d : Array Int} (h : ¬ (i < hi ∧ ltInt d[i]! d[i - 1]! = false)) : scanSorted ltInt d hi i = i := by
  rw [scanSorted]; rw [if_neg (by simpa using h)]
theorem pi_step {lo hi s i i2 : Nat} {d : Array Int} (h : scanSorted ltInt d hi i = i2) : partialIns ltInt lo hi (s + 1) i d =
    if i2 = hi then (d, true) else if hi - lo < 50 then (d, false) else
      partialIns ltInt lo hi s i2 (if hi - i2 ≥ 2 then shiftUp ltInt hi (i2 + 1) (if i2 - lo ≥ 2 then shiftDown ltInt (i2 - 1) (swp d i2 (i2 - 1)) else swp d i2 (i2 - 1)) else (if i2 - lo ≥ 2 then shiftDown ltInt (i2 - 1) (swp d i2 (i2 - 1)) else swp d i2 (i2 - 1))) := by
  subst h; rfl
theorem partialInsU (b cap m lo hi : Nat) (d : Array Int) (rest : List Value) (L : Chunk) (hd : Srt m d) (hlh : lo < hi) (hhm : hi ≤ m) :
    Fn1 Tryz.prog 94 [.slice (some ⟨b, 0, none⟩) m cap, .int .i64 lo, .int .i64 hi] ((b, .cells (kvs .u32 d ++ rest).toArray 25 (0, 0)) :: L)
      (fun u L' => u = .bool (partialInsertionSort ltInt d lo hi).2 ∧ L' = (b, .cells (kvs .u32 (partialInsertionSort ltInt d lo hi).1 ++ rest).toArray 25 (0, 0)) :: L) := by
  intro w0; refine Spec.enter3 Tryz.func94 rfl Tryz.ntmps94 (by decide) ?_
  have hml := hd.len
  rw [show partialInsertionSort ltInt d lo hi = partialIns ltInt lo hi 5 (lo + 1) d from rfl]
  repeat' (first|refine Gi0 fun _=>?_|refine Gi1 ?_|refine CW.drawsP (id := 5) [0,1,2,3,4,5,6,7,8,9,10,11,12,13,14,15] mixed (by kernel_rfl) ?_|refine CW.drawsSw (id := 11) [0, 1, 2, 3, 4, 5, 6, 7, 8, 10, 11, 12] [9, 13] 14 [15, 16, 17] mixed (by kernel_rfl) ?_|refine CW.drawsP (id := 16) [0,1,2,3,4,5,6,7,8,9,10] mixed (by kernel_rfl) ?_|refine CW.drawsSw (id := 17) [0, 1, 2, 3, 4, 5, 6, 7, 8, 10, 11, 12] [9, 13] 14 [15, 16, 17] mixed (by kernel_rfl) ?_|refine CW.drawsP (id := 22) [0,1,2,3,4,5,6,7,8,9,10] mixed (by kernel_rfl) ?_|refine CW.drawsSw (id := 23) [0, 1, 2, 3, 4, 5, 6, 7, 8, 10, 11, 12] [9, 13] 14 [15, 16, 17] mixed (by kernel_rfl) ?_|refine Gi2 (fun _=>?_) fun _=>?_|refine Gi3 ?_|refine Gi4 fun _=>?_|fail)
  rw [show (lo : Int) + 1 = ((lo + 1 : Nat) : Int) by omega]
  refine CW.loop (fun k ρ ds L' => ds = [] ∧ (∃ i d', L' = (b, .cells (kvs .u32 d' ++ rest).toArray 25 (0, 0)) :: L ∧ Srt m d' ∧ k ≤ 5 ∧ lo < i ∧ i ≤ hi ∧ partialIns ltInt lo hi k i d' = partialIns ltInt lo hi 5 (lo + 1) d ∧ Ev ρ 7 (.int .i64 (i : Int))) ∧ Ev ρ 8 (.int .i64 (5 - (k : Int))) ∧ Ev ρ 0 (.slice (some ⟨b, 0, none⟩) m cap) ∧ Ev ρ 1 (.int .i64 lo) ∧ Ev ρ 2 (.int .i64 hi)) 5
    ⟨rfl, ⟨lo + 1, d, rfl, hd, by omega, by omega, by omega, rfl, inferInstance⟩, inferInstance, inferInstance, inferInstance, inferInstance⟩ ?_
  rintro k ρ ds L' ⟨rfl, ⟨i, d2, rfl, hd2, hk5, hi0, hi1, hfin, e7⟩, e8, e0, e1, e2⟩
  cases k with
  | zero =>
    repeat' (first|refine Gi0 fun _=>?_|refine Gi1 ?_|refine CW.drawsP (id := 5) [0,1,2,3,4,5,6,7,8,9,10,11,12,13,14,15] mixed (by kernel_rfl) ?_|refine CW.drawsSw (id := 11) [0, 1, 2, 3, 4, 5, 6, 7, 8, 10, 11, 12] [9, 13] 14 [15, 16, 17] mixed (by kernel_rfl) ?_|refine CW.drawsP (id := 16) [0,1,2,3,4,5,6,7,8,9,10] mixed (by kernel_rfl) ?_|refine CW.drawsSw (id := 17) [0, 1, 2, 3, 4, 5, 6, 7, 8, 10, 11, 12] [9, 13] 14 [15, 16, 17] mixed (by kernel_rfl) ?_|refine CW.drawsP (id := 22) [0,1,2,3,4,5,6,7,8,9,10] mixed (by kernel_rfl) ?_|refine CW.drawsSw (id := 23) [0, 1, 2, 3, 4, 5, 6, 7, 8, 10, 11, 12] [9, 13] 14 [15, 16, 17] mixed (by kernel_rfl) ?_|refine Gi2 (fun _=>?_) fun _=>?_|refine Gi3 ?_|refine Gi4 fun _=>?_|fail)
    refine bodyK.ret (Res.one Tryz.results94) ?_
    rw [← hfin]
    exact ⟨rfl, rfl⟩
  | succ s =>
    rw [show (5 : Int) - ((s + 1 : Nat) : Int) = 4 - (s : Int) by omega] at e8
    obtain ⟨i2, hsc0⟩ : ∃ r, scanSorted ltInt d2 hi i = r := ⟨_, rfl⟩
    rw [pi_step hsc0] at hfin
    repeat' (first|refine Gi0 fun _=>?_|refine Gi1 ?_|refine CW.drawsP (id := 5) [0,1,2,3,4,5,6,7,8,9,10,11,12,13,14,15] mixed (by kernel_rfl) ?_|refine CW.drawsSw (id := 11) [0, 1, 2, 3, 4, 5, 6, 7, 8, 10, 11, 12] [9, 13] 14 [15, 16, 17] mixed (by kernel_rfl) ?_|refine CW.drawsP (id := 16) [0,1,2,3,4,5,6,7,8,9,10] mixed (by kernel_rfl) ?_|refine CW.drawsSw (id := 17) [0, 1, 2, 3, 4, 5, 6, 7, 8, 10, 11, 12] [9, 13] 14 [15, 16, 17] mixed (by kernel_rfl) ?_|refine CW.drawsP (id := 22) [0,1,2,3,4,5,6,7,8,9,10] mixed (by kernel_rfl) ?_|refine CW.drawsSw (id := 23) [0, 1, 2, 3, 4, 5, 6, 7, 8, 10, 11, 12] [9, 13] 14 [15, 16, 17] mixed (by kernel_rfl) ?_|refine Gi2 (fun _=>?_) fun _=>?_|refine Gi3 ?_|refine Gi4 fun _=>?_|fail)
    refine CW.loopE 2 (fun ρ ds L' => ds = [] ∧ L' = (b, .cells (kvs .u32 d2 ++ rest).toArray 25 (0, 0)) :: L ∧ lo < i2 ∧ i2 ≤ hi ∧ Ev ρ 0 (.slice (some ⟨b, 0, none⟩) m cap) ∧ Ev ρ 1 (.int .i64 lo) ∧ Ev ρ 2 (.int .i64 hi) ∧ Ev ρ 7 (.int .i64 (i2 : Int)) ∧ Ev ρ 8 (.int .i64 (4 - (s : Int))))
      (fun k ρ ds L' => ds = [] ∧ (∃ i', L' = (b, .cells (kvs .u32 d2 ++ rest).toArray 25 (0, 0)) :: L ∧ lo < i' ∧ i' ≤ hi ∧ k = hi - i' ∧ scanSorted ltInt d2 hi i' = i2 ∧ Ev ρ 7 (.int .i64 (i' : Int))) ∧ Ev ρ 0 (.slice (some ⟨b, 0, none⟩) m cap) ∧ Ev ρ 1 (.int .i64 lo) ∧ Ev ρ 2 (.int .i64 hi) ∧ Ev ρ 8 (.int .i64 (4 - (s : Int)))) (hi - i)
      ⟨rfl, ⟨i, rfl, hi0, hi1, rfl, hsc0, inferInstance⟩, inferInstance, inferInstance, inferInstance, inferInstance⟩ ?_ ?_
    · rintro k ρ ds L' ⟨rfl, ⟨i', rfl, hi0, hi1, rfl, hsc, e7⟩, e0, e1, e2, e8⟩
      by_cases hlt : i' < hi
      · have l8 : LtS i' d2.size := ⟨by rw [hd2.size]; omega⟩
        have l9 : LtS (i' - 1) d2.size := ⟨by rw [hd2.size]; omega⟩
        have t8 : ToN ((i' : Int) - 1) (i' - 1) := ⟨by omega⟩
        repeat' (first|refine Gi0 fun _=>?_|refine Gi1 ?_|refine CW.drawsP (id := 5) [0,1,2,3,4,5,6,7,8,9,10,11,12,13,14,15] mixed (by kernel_rfl) ?_|refine CW.drawsSw (id := 11) [0, 1, 2, 3, 4, 5, 6, 7, 8, 10, 11, 12] [9, 13] 14 [15, 16, 17] mixed (by kernel_rfl) ?_|refine CW.drawsP (id := 16) [0,1,2,3,4,5,6,7,8,9,10] mixed (by kernel_rfl) ?_|refine CW.drawsSw (id := 17) [0, 1, 2, 3, 4, 5, 6, 7, 8, 10, 11, 12] [9, 13] 14 [15, 16, 17] mixed (by kernel_rfl) ?_|refine CW.drawsP (id := 22) [0,1,2,3,4,5,6,7,8,9,10] mixed (by kernel_rfl) ?_|refine CW.drawsSw (id := 23) [0, 1, 2, 3, 4, 5, 6, 7, 8, 10, 11, 12] [9, 13] 14 [15, 16, 17] mixed (by kernel_rfl) ?_|refine Gi2 (fun _=>?_) fun _=>?_|refine Gi3 ?_|refine Gi4 fun _=>?_|fail)
        refine RW.call (lessU _ _ _) ?_
        rintro _ _ ⟨rfl, rfl⟩
        refine pinAll ?_
        cases hc : ltInt d2[i']! d2[i' - 1]! with
        | false =>
          rw [ss_step hlt hc] at hsc
          repeat' (first|refine Gi0 fun _=>?_|refine Gi1 ?_|refine CW.drawsP (id := 5) [0,1,2,3,4,5,6,7,8,9,10,11,12,13,14,15] mixed (by kernel_rfl) ?_|refine CW.drawsSw (id := 11) [0, 1, 2, 3, 4, 5, 6, 7, 8, 10, 11, 12] [9, 13] 14 [15, 16, 17] mixed (by kernel_rfl) ?_|refine CW.drawsP (id := 16) [0,1,2,3,4,5,6,7,8,9,10] mixed (by kernel_rfl) ?_|refine CW.drawsSw (id := 17) [0, 1, 2, 3, 4, 5, 6, 7, 8, 10, 11, 12] [9, 13] 14 [15, 16, 17] mixed (by kernel_rfl) ?_|refine CW.drawsP (id := 22) [0,1,2,3,4,5,6,7,8,9,10] mixed (by kernel_rfl) ?_|refine CW.drawsSw (id := 23) [0, 1, 2, 3, 4, 5, 6, 7, 8, 10, 11, 12] [9, 13] 14 [15, 16, 17] mixed (by kernel_rfl) ?_|refine Gi2 (fun _=>?_) fun _=>?_|refine Gi3 ?_|refine Gi4 fun _=>?_|fail)
          rw [show (i' : Int) + 1 = ((i' + 1 : Nat) : Int) by omega]
          exact ⟨hi - (i' + 1), by omega, rfl, ⟨i' + 1, rfl, by omega, by omega, rfl, hsc, inferInstance⟩, inferInstance, inferInstance, inferInstance, inferInstance⟩
        | true =>
          rw [ss_end (fun h => by rw [hc] at h; cases h.2)] at hsc
          subst hsc
          repeat' (first|refine Gi0 fun _=>?_|refine Gi1 ?_|refine CW.drawsP (id := 5) [0,1,2,3,4,5,6,7,8,9,10,11,12,13,14,15] mixed (by kernel_rfl) ?_|refine CW.drawsSw (id := 11) [0, 1, 2, 3, 4, 5, 6, 7, 8, 10, 11, 12] [9, 13] 14 [15, 16, 17] mixed (by kernel_rfl) ?_|refine CW.drawsP (id := 16) [0,1,2,3,4,5,6,7,8,9,10] mixed (by kernel_rfl) ?_|refine CW.drawsSw (id := 17) [0, 1, 2, 3, 4, 5, 6, 7, 8, 10, 11, 12] [9, 13] 14 [15, 16, 17] mixed (by kernel_rfl) ?_|refine CW.drawsP (id := 22) [0,1,2,3,4,5,6,7,8,9,10] mixed (by kernel_rfl) ?_|refine CW.drawsSw (id := 23) [0, 1, 2, 3, 4, 5, 6, 7, 8, 10, 11, 12] [9, 13] 14 [15, 16, 17] mixed (by kernel_rfl) ?_|refine Gi2 (fun _=>?_) fun _=>?_|refine Gi3 ?_|refine Gi4 fun _=>?_|fail)
          exact exitK_to ⟨rfl, rfl, hi0, hi1, inferInstance, inferInstance, inferInstance, inferInstance, inferInstance⟩
      · rw [ss_end (fun h => hlt h.1)] at hsc
        subst hsc
        repeat' (first|refine Gi0 fun _=>?_|refine Gi1 ?_|refine CW.drawsP (id := 5) [0,1,2,3,4,5,6,7,8,9,10,11,12,13,14,15] mixed (by kernel_rfl) ?_|refine CW.drawsSw (id := 11) [0, 1, 2, 3, 4, 5, 6, 7, 8, 10, 11, 12] [9, 13] 14 [15, 16, 17] mixed (by kernel_rfl) ?_|refine CW.drawsP (id := 16) [0,1,2,3,4,5,6,7,8,9,10] mixed (by kernel_rfl) ?_|refine CW.drawsSw (id := 17) [0, 1, 2, 3, 4, 5, 6, 7, 8, 10, 11, 12] [9, 13] 14 [15, 16, 17] mixed (by kernel_rfl) ?_|refine CW.drawsP (id := 22) [0,1,2,3,4,5,6,7,8,9,10] mixed (by kernel_rfl) ?_|refine CW.drawsSw (id := 23) [0, 1, 2, 3, 4, 5, 6, 7, 8, 10, 11, 12] [9, 13] 14 [15, 16, 17] mixed (by kernel_rfl) ?_|refine Gi2 (fun _=>?_) fun _=>?_|refine Gi3 ?_|refine Gi4 fun _=>?_|fail)
        exact exitK_to ⟨rfl, rfl, hi0, hi1, inferInstance, inferInstance, inferInstance, inferInstance, inferInstance⟩
    rintro ρ ds L' ⟨rfl, rfl, hi2, hi3, e0, e1, e2, e7, e8⟩
    by_cases hend : i2 = hi
    · rw [if_pos hend] at hfin
      repeat' (first|refine Gi0 fun _=>?_|refine Gi1 ?_|refine CW.drawsP (id := 5) [0,1,2,3,4,5,6,7,8,9,10,11,12,13,14,15] mixed (by kernel_rfl) ?_|refine CW.drawsSw (id := 11) [0, 1, 2, 3, 4, 5, 6, 7, 8, 10, 11, 12] [9, 13] 14 [15, 16, 17] mixed (by kernel_rfl) ?_|refine CW.drawsP (id := 16) [0,1,2,3,4,5,6,7,8,9,10] mixed (by kernel_rfl) ?_|refine CW.drawsSw (id := 17) [0, 1, 2, 3, 4, 5, 6, 7, 8, 10, 11, 12] [9, 13] 14 [15, 16, 17] mixed (by kernel_rfl) ?_|refine CW.drawsP (id := 22) [0,1,2,3,4,5,6,7,8,9,10] mixed (by kernel_rfl) ?_|refine CW.drawsSw (id := 23) [0, 1, 2, 3, 4, 5, 6, 7, 8, 10, 11, 12] [9, 13] 14 [15, 16, 17] mixed (by kernel_rfl) ?_|refine Gi2 (fun _=>?_) fun _=>?_|refine Gi3 ?_|refine Gi4 fun _=>?_|fail)
      refine bodyK.ret (Res.one Tryz.results94) ?_
      rw [← hfin]
      exact ⟨rfl, rfl⟩
    · rw [if_neg hend] at hfin
      by_cases hsm : hi - lo < 50
      · rw [if_pos hsm] at hfin
        repeat' (first|refine Gi0 fun _=>?_|refine Gi1 ?_|refine CW.drawsP (id := 5) [0,1,2,3,4,5,6,7,8,9,10,11,12,13,14,15] mixed (by kernel_rfl) ?_|refine CW.drawsSw (id := 11) [0, 1, 2, 3, 4, 5, 6, 7, 8, 10, 11, 12] [9, 13] 14 [15, 16, 17] mixed (by kernel_rfl) ?_|refine CW.drawsP (id := 16) [0,1,2,3,4,5,6,7,8,9,10] mixed (by kernel_rfl) ?_|refine CW.drawsSw (id := 17) [0, 1, 2, 3, 4, 5, 6, 7, 8, 10, 11, 12] [9, 13] 14 [15, 16, 17] mixed (by kernel_rfl) ?_|refine CW.drawsP (id := 22) [0,1,2,3,4,5,6,7,8,9,10] mixed (by kernel_rfl) ?_|refine CW.drawsSw (id := 23) [0, 1, 2, 3, 4, 5, 6, 7, 8, 10, 11, 12] [9, 13] 14 [15, 16, 17] mixed (by kernel_rfl) ?_|refine Gi2 (fun _=>?_) fun _=>?_|refine Gi3 ?_|refine Gi4 fun _=>?_|fail)
        refine bodyK.ret (Res.one Tryz.results94) ?_
        rw [← hfin]
        exact ⟨rfl, rfl⟩
      · rw [if_neg hsm] at hfin
        have l5 : LtS i2 d2.size := ⟨by rw [hd2.size]; omega⟩
        have l6 : LtS (i2 - 1) d2.size := ⟨by rw [hd2.size]; omega⟩
        have t6 : ToN ((i2 : Int) - 1) (i2 - 1) := ⟨by omega⟩
        by_cases hdn : i2 - lo ≥ 2
        · rw [if_pos hdn] at hfin
          repeat' (first|refine Gi0 fun _=>?_|refine Gi1 ?_|refine CW.drawsP (id := 5) [0,1,2,3,4,5,6,7,8,9,10,11,12,13,14,15] mixed (by kernel_rfl) ?_|refine CW.drawsSw (id := 11) [0, 1, 2, 3, 4, 5, 6, 7, 8, 10, 11, 12] [9, 13] 14 [15, 16, 17] mixed (by kernel_rfl) ?_|refine CW.drawsP (id := 16) [0,1,2,3,4,5,6,7,8,9,10] mixed (by kernel_rfl) ?_|refine CW.drawsSw (id := 17) [0, 1, 2, 3, 4, 5, 6, 7, 8, 10, 11, 12] [9, 13] 14 [15, 16, 17] mixed (by kernel_rfl) ?_|refine CW.drawsP (id := 22) [0,1,2,3,4,5,6,7,8,9,10] mixed (by kernel_rfl) ?_|refine CW.drawsSw (id := 23) [0, 1, 2, 3, 4, 5, 6, 7, 8, 10, 11, 12] [9, 13] 14 [15, 16, 17] mixed (by kernel_rfl) ?_|refine Gi2 (fun _=>?_) fun _=>?_|refine Gi3 ?_|refine Gi4 fun _=>?_|fail)
          rw [show (i2 : Int) - 1 = ((i2 - 1 : Nat) : Int) by omega]
          refine CW.loopE 4 (fun ρ ds L' => ds = [] ∧ L' = (b, .cells (kvs .u32 (shiftDown ltInt (i2 - 1) (swp d2 i2 (i2 - 1))) ++ rest).toArray 25 (0, 0)) :: L ∧ Ev ρ 0 (.slice (some ⟨b, 0, none⟩) m cap) ∧ Ev ρ 1 (.int .i64 lo) ∧ Ev ρ 2 (.int .i64 hi) ∧ Ev ρ 7 (.int .i64 (i2 : Int)) ∧ Ev ρ 8 (.int .i64 (4 - (s : Int))))
            (fun k ρ ds L' => ds = [] ∧ (∃ j d5, L' = (b, .cells (kvs .u32 d5 ++ rest).toArray 25 (0, 0)) :: L ∧ Srt m d5 ∧ j ≤ i2 ∧ j = k ∧ shiftDown ltInt j d5 = shiftDown ltInt (i2 - 1) (swp d2 i2 (i2 - 1)) ∧ Ev ρ 9 (.int .i64 (j : Int))) ∧ Ev ρ 0 (.slice (some ⟨b, 0, none⟩) m cap) ∧ Ev ρ 1 (.int .i64 lo) ∧ Ev ρ 2 (.int .i64 hi) ∧ Ev ρ 7 (.int .i64 (i2 : Int)) ∧ Ev ρ 8 (.int .i64 (4 - (s : Int)))) (i2 - 1)
            ⟨rfl, ⟨i2 - 1, swp d2 i2 (i2 - 1), rfl, hd2.swp _ _, by omega, rfl, rfl, inferInstance⟩, inferInstance, inferInstance, inferInstance, inferInstance, inferInstance⟩ ?_ ?_
          · rintro k ρ ds L' ⟨rfl, ⟨j, d5, rfl, hd5, hj1, rfl, hsd, e9⟩, e0, e1, e2, e7, e8⟩
            by_cases hj0 : 1 ≤ j
            · obtain ⟨j, rfl⟩ : ∃ t, j = t + 1 := ⟨j - 1, by omega⟩
              have l8 : LtS (j + 1) d5.size := ⟨by rw [hd5.size]; omega⟩
              have l9 : LtS j d5.size := ⟨by rw [hd5.size]; omega⟩
              have t8 : ToN (((j + 1 : Nat) : Int) - 1) j := ⟨by omega⟩
              repeat' (first|refine Gi0 fun _=>?_|refine Gi1 ?_|refine CW.drawsP (id := 5) [0,1,2,3,4,5,6,7,8,9,10,11,12,13,14,15] mixed (by kernel_rfl) ?_|refine CW.drawsSw (id := 11) [0, 1, 2, 3, 4, 5, 6, 7, 8, 10, 11, 12] [9, 13] 14 [15, 16, 17] mixed (by kernel_rfl) ?_|refine CW.drawsP (id := 16) [0,1,2,3,4,5,6,7,8,9,10] mixed (by kernel_rfl) ?_|refine CW.drawsSw (id := 17) [0, 1, 2, 3, 4, 5, 6, 7, 8, 10, 11, 12] [9, 13] 14 [15, 16, 17] mixed (by kernel_rfl) ?_|refine CW.drawsP (id := 22) [0,1,2,3,4,5,6,7,8,9,10] mixed (by kernel_rfl) ?_|refine CW.drawsSw (id := 23) [0, 1, 2, 3, 4, 5, 6, 7, 8, 10, 11, 12] [9, 13] 14 [15, 16, 17] mixed (by kernel_rfl) ?_|refine Gi2 (fun _=>?_) fun _=>?_|refine Gi3 ?_|refine Gi4 fun _=>?_|fail)
              refine RW.call (lessU _ _ _) ?_
              rintro _ _ ⟨rfl, rfl⟩
              refine pinAll ?_
              rw [sd_eq] at hsd
              cases hc5 : ltInt d5[j + 1]! d5[j]! with
              | true =>
                rw [hc5, if_pos rfl] at hsd
                repeat' (first|refine Gi0 fun _=>?_|refine Gi1 ?_|refine CW.drawsP (id := 5) [0,1,2,3,4,5,6,7,8,9,10,11,12,13,14,15] mixed (by kernel_rfl) ?_|refine CW.drawsSw (id := 11) [0, 1, 2, 3, 4, 5, 6, 7, 8, 10, 11, 12] [9, 13] 14 [15, 16, 17] mixed (by kernel_rfl) ?_|refine CW.drawsP (id := 16) [0,1,2,3,4,5,6,7,8,9,10] mixed (by kernel_rfl) ?_|refine CW.drawsSw (id := 17) [0, 1, 2, 3, 4, 5, 6, 7, 8, 10, 11, 12] [9, 13] 14 [15, 16, 17] mixed (by kernel_rfl) ?_|refine CW.drawsP (id := 22) [0,1,2,3,4,5,6,7,8,9,10] mixed (by kernel_rfl) ?_|refine CW.drawsSw (id := 23) [0, 1, 2, 3, 4, 5, 6, 7, 8, 10, 11, 12] [9, 13] 14 [15, 16, 17] mixed (by kernel_rfl) ?_|refine Gi2 (fun _=>?_) fun _=>?_|refine Gi3 ?_|refine Gi4 fun _=>?_|fail)
                rw [show ((j + 1 : Nat) : Int) - 1 = (j : Int) by omega]
                exact ⟨j, by omega, rfl, ⟨j, swp d5 (j + 1) j, rfl, hd5.swp _ _, by omega, rfl, hsd, inferInstance⟩, inferInstance, inferInstance, inferInstance, inferInstance, inferInstance⟩
              | false =>
                rw [hc5] at hsd
                simp only [Bool.false_eq_true, if_false] at hsd
                rw [← hsd]
                repeat' (first|refine Gi0 fun _=>?_|refine Gi1 ?_|refine CW.drawsP (id := 5) [0,1,2,3,4,5,6,7,8,9,10,11,12,13,14,15] mixed (by kernel_rfl) ?_|refine CW.drawsSw (id := 11) [0, 1, 2, 3, 4, 5, 6, 7, 8, 10, 11, 12] [9, 13] 14 [15, 16, 17] mixed (by kernel_rfl) ?_|refine CW.drawsP (id := 16) [0,1,2,3,4,5,6,7,8,9,10] mixed (by kernel_rfl) ?_|refine CW.drawsSw (id := 17) [0, 1, 2, 3, 4, 5, 6, 7, 8, 10, 11, 12] [9, 13] 14 [15, 16, 17] mixed (by kernel_rfl) ?_|refine CW.drawsP (id := 22) [0,1,2,3,4,5,6,7,8,9,10] mixed (by kernel_rfl) ?_|refine CW.drawsSw (id := 23) [0, 1, 2, 3, 4, 5, 6, 7, 8, 10, 11, 12] [9, 13] 14 [15, 16, 17] mixed (by kernel_rfl) ?_|refine Gi2 (fun _=>?_) fun _=>?_|refine Gi3 ?_|refine Gi4 fun _=>?_|fail)
                exact exitK_to ⟨rfl, rfl, inferInstance, inferInstance, inferInstance, inferInstance, inferInstance⟩
            · obtain rfl : j = 0 := by omega
              rw [← hsd]
              repeat' (first|refine Gi0 fun _=>?_|refine Gi1 ?_|refine CW.drawsP (id := 5) [0,1,2,3,4,5,6,7,8,9,10,11,12,13,14,15] mixed (by kernel_rfl) ?_|refine CW.drawsSw (id := 11) [0, 1, 2, 3, 4, 5, 6, 7, 8, 10, 11, 12] [9, 13] 14 [15, 16, 17] mixed (by kernel_rfl) ?_|refine CW.drawsP (id := 16) [0,1,2,3,4,5,6,7,8,9,10] mixed (by kernel_rfl) ?_|refine CW.drawsSw (id := 17) [0, 1, 2, 3, 4, 5, 6, 7, 8, 10, 11, 12] [9, 13] 14 [15, 16, 17] mixed (by kernel_rfl) ?_|refine CW.drawsP (id := 22) [0,1,2,3,4,5,6,7,8,9,10] mixed (by kernel_rfl) ?_|refine CW.drawsSw (id := 23) [0, 1, 2, 3, 4, 5, 6, 7, 8, 10, 11, 12] [9, 13] 14 [15, 16, 17] mixed (by kernel_rfl) ?_|refine Gi2 (fun _=>?_) fun _=>?_|refine Gi3 ?_|refine Gi4 fun _=>?_|fail)
              exact exitK_to ⟨rfl, rfl, inferInstance, inferInstance, inferInstance, inferInstance, inferInstance⟩
          rintro ρ ds L' ⟨rfl, rfl, e0, e1, e2, e7, e8⟩
          by_cases hu : hi - i2 ≥ 2
          · rw [if_pos hu] at hfin
            repeat' (first|refine Gi0 fun _=>?_|refine Gi1 ?_|refine CW.drawsP (id := 5) [0,1,2,3,4,5,6,7,8,9,10,11,12,13,14,15] mixed (by kernel_rfl) ?_|refine CW.drawsSw (id := 11) [0, 1, 2, 3, 4, 5, 6, 7, 8, 10, 11, 12] [9, 13] 14 [15, 16, 17] mixed (by kernel_rfl) ?_|refine CW.drawsP (id := 16) [0,1,2,3,4,5,6,7,8,9,10] mixed (by kernel_rfl) ?_|refine CW.drawsSw (id := 17) [0, 1, 2, 3, 4, 5, 6, 7, 8, 10, 11, 12] [9, 13] 14 [15, 16, 17] mixed (by kernel_rfl) ?_|refine CW.drawsP (id := 22) [0,1,2,3,4,5,6,7,8,9,10] mixed (by kernel_rfl) ?_|refine CW.drawsSw (id := 23) [0, 1, 2, 3, 4, 5, 6, 7, 8, 10, 11, 12] [9, 13] 14 [15, 16, 17] mixed (by kernel_rfl) ?_|refine Gi2 (fun _=>?_) fun _=>?_|refine Gi3 ?_|refine Gi4 fun _=>?_|fail)
            rw [show (i2 : Int) + 1 = ((i2 + 1 : Nat) : Int) by omega]
            refine CW.loopE 6 (fun ρ ds L' => ds = [] ∧ L' = (b, .cells (kvs .u32 (shiftUp ltInt hi (i2 + 1) (shiftDown ltInt (i2 - 1) (swp d2 i2 (i2 - 1)))) ++ rest).toArray 25 (0, 0)) :: L ∧ Ev ρ 0 (.slice (some ⟨b, 0, none⟩) m cap) ∧ Ev ρ 1 (.int .i64 lo) ∧ Ev ρ 2 (.int .i64 hi) ∧ Ev ρ 7 (.int .i64 (i2 : Int)) ∧ Ev ρ 8 (.int .i64 (4 - (s : Int))))
              (fun k ρ ds L' => ds = [] ∧ (∃ j d5, L' = (b, .cells (kvs .u32 d5 ++ rest).toArray 25 (0, 0)) :: L ∧ Srt m d5 ∧ 1 ≤ j ∧ j ≤ hi ∧ k = hi - j ∧ shiftUp ltInt hi j d5 = shiftUp ltInt hi (i2 + 1) (shiftDown ltInt (i2 - 1) (swp d2 i2 (i2 - 1))) ∧ Ev ρ 10 (.int .i64 (j : Int))) ∧ Ev ρ 0 (.slice (some ⟨b, 0, none⟩) m cap) ∧ Ev ρ 1 (.int .i64 lo) ∧ Ev ρ 2 (.int .i64 hi) ∧ Ev ρ 7 (.int .i64 (i2 : Int)) ∧ Ev ρ 8 (.int .i64 (4 - (s : Int)))) (hi - (i2 + 1))
              ⟨rfl, ⟨i2 + 1, (shiftDown ltInt (i2 - 1) (swp d2 i2 (i2 - 1))), rfl, (sdS (hd2.swp _ _)), by omega, by omega, rfl, rfl, inferInstance⟩, inferInstance, inferInstance, inferInstance, inferInstance, inferInstance⟩ ?_ ?_
            · rintro k ρ ds L' ⟨rfl, ⟨j, d5, rfl, hd5, hj0, hj1, rfl, hsu, e10⟩, e0, e1, e2, e7, e8⟩
              by_cases hjh : j < hi
              · have l8 : LtS j d5.size := ⟨by rw [hd5.size]; omega⟩
                have l9 : LtS (j - 1) d5.size := ⟨by rw [hd5.size]; omega⟩
                have t8 : ToN ((j : Int) - 1) (j - 1) := ⟨by omega⟩
                repeat' (first|refine Gi0 fun _=>?_|refine Gi1 ?_|refine CW.drawsP (id := 5) [0,1,2,3,4,5,6,7,8,9,10,11,12,13,14,15] mixed (by kernel_rfl) ?_|refine CW.drawsSw (id := 11) [0, 1, 2, 3, 4, 5, 6, 7, 8, 10, 11, 12] [9, 13] 14 [15, 16, 17] mixed (by kernel_rfl) ?_|refine CW.drawsP (id := 16) [0,1,2,3,4,5,6,7,8,9,10] mixed (by kernel_rfl) ?_|refine CW.drawsSw (id := 17) [0, 1, 2, 3, 4, 5, 6, 7, 8, 10, 11, 12] [9, 13] 14 [15, 16, 17] mixed (by kernel_rfl) ?_|refine CW.drawsP (id := 22) [0,1,2,3,4,5,6,7,8,9,10] mixed (by kernel_rfl) ?_|refine CW.drawsSw (id := 23) [0, 1, 2, 3, 4, 5, 6, 7, 8, 10, 11, 12] [9, 13] 14 [15, 16, 17] mixed (by kernel_rfl) ?_|refine Gi2 (fun _=>?_) fun _=>?_|refine Gi3 ?_|refine Gi4 fun _=>?_|fail)
                refine RW.call (lessU _ _ _) ?_
                rintro _ _ ⟨rfl, rfl⟩
                refine pinAll ?_
                cases hc5 : ltInt d5[j]! d5[j - 1]! with
                | true =>
                  rw [su_step hjh hc5] at hsu
                  repeat' (first|refine Gi0 fun _=>?_|refine Gi1 ?_|refine CW.drawsP (id := 5) [0,1,2,3,4,5,6,7,8,9,10,11,12,13,14,15] mixed (by kernel_rfl) ?_|refine CW.drawsSw (id := 11) [0, 1, 2, 3, 4, 5, 6, 7, 8, 10, 11, 12] [9, 13] 14 [15, 16, 17] mixed (by kernel_rfl) ?_|refine CW.drawsP (id := 16) [0,1,2,3,4,5,6,7,8,9,10] mixed (by kernel_rfl) ?_|refine CW.drawsSw (id := 17) [0, 1, 2, 3, 4, 5, 6, 7, 8, 10, 11, 12] [9, 13] 14 [15, 16, 17] mixed (by kernel_rfl) ?_|refine CW.drawsP (id := 22) [0,1,2,3,4,5,6,7,8,9,10] mixed (by kernel_rfl) ?_|refine CW.drawsSw (id := 23) [0, 1, 2, 3, 4, 5, 6, 7, 8, 10, 11, 12] [9, 13] 14 [15, 16, 17] mixed (by kernel_rfl) ?_|refine Gi2 (fun _=>?_) fun _=>?_|refine Gi3 ?_|refine Gi4 fun _=>?_|fail)
                  rw [show (j : Int) + 1 = ((j + 1 : Nat) : Int) by omega]
                  exact ⟨hi - (j + 1), by omega, rfl, ⟨j + 1, swp d5 j (j - 1), rfl, hd5.swp _ _, by omega, by omega, rfl, hsu, inferInstance⟩, inferInstance, inferInstance, inferInstance, inferInstance, inferInstance⟩
                | false =>
                  rw [su_end (fun h => by rw [hc5] at h; cases h.2)] at hsu
                  rw [← hsu]
                  repeat' (first|refine Gi0 fun _=>?_|refine Gi1 ?_|refine CW.drawsP (id := 5) [0,1,2,3,4,5,6,7,8,9,10,11,12,13,14,15] mixed (by kernel_rfl) ?_|refine CW.drawsSw (id := 11) [0, 1, 2, 3, 4, 5, 6, 7, 8, 10, 11, 12] [9, 13] 14 [15, 16, 17] mixed (by kernel_rfl) ?_|refine CW.drawsP (id := 16) [0,1,2,3,4,5,6,7,8,9,10] mixed (by kernel_rfl) ?_|refine CW.drawsSw (id := 17) [0, 1, 2, 3, 4, 5, 6, 7, 8, 10, 11, 12] [9, 13] 14 [15, 16, 17] mixed (by kernel_rfl) ?_|refine CW.drawsP (id := 22) [0,1,2,3,4,5,6,7,8,9,10] mixed (by kernel_rfl) ?_|refine CW.drawsSw (id := 23) [0, 1, 2, 3, 4, 5, 6, 7, 8, 10, 11, 12] [9, 13] 14 [15, 16, 17] mixed (by kernel_rfl) ?_|refine Gi2 (fun _=>?_) fun _=>?_|refine Gi3 ?_|refine Gi4 fun _=>?_|fail)
                  exact exitK_to ⟨rfl, rfl, inferInstance, inferInstance, inferInstance, inferInstance, inferInstance⟩
              · rw [su_end (fun h => hjh h.1)] at hsu
                rw [← hsu]
                repeat' (first|refine Gi0 fun _=>?_|refine Gi1 ?_|refine CW.drawsP (id := 5) [0,1,2,3,4,5,6,7,8,9,10,11,12,13,14,15] mixed (by kernel_rfl) ?_|refine CW.drawsSw (id := 11) [0, 1, 2, 3, 4, 5, 6, 7, 8, 10, 11, 12] [9, 13] 14 [15, 16, 17] mixed (by kernel_rfl) ?_|refine CW.drawsP (id := 16) [0,1,2,3,4,5,6,7,8,9,10] mixed (by kernel_rfl) ?_|refine CW.drawsSw (id := 17) [0, 1, 2, 3, 4, 5, 6, 7, 8, 10, 11, 12] [9, 13] 14 [15, 16, 17] mixed (by kernel_rfl) ?_|refine CW.drawsP (id := 22) [0,1,2,3,4,5,6,7,8,9,10] mixed (by kernel_rfl) ?_|refine CW.drawsSw (id := 23) [0, 1, 2, 3, 4, 5, 6, 7, 8, 10, 11, 12] [9, 13] 14 [15, 16, 17] mixed (by kernel_rfl) ?_|refine Gi2 (fun _=>?_) fun _=>?_|refine Gi3 ?_|refine Gi4 fun _=>?_|fail)
                exact exitK_to ⟨rfl, rfl, inferInstance, inferInstance, inferInstance, inferInstance, inferInstance⟩
            rintro ρ ds L' ⟨rfl, rfl, e0, e1, e2, e7, e8⟩
            repeat' (first|refine Gi0 fun _=>?_|refine Gi1 ?_|refine CW.drawsP (id := 5) [0,1,2,3,4,5,6,7,8,9,10,11,12,13,14,15] mixed (by kernel_rfl) ?_|refine CW.drawsSw (id := 11) [0, 1, 2, 3, 4, 5, 6, 7, 8, 10, 11, 12] [9, 13] 14 [15, 16, 17] mixed (by kernel_rfl) ?_|refine CW.drawsP (id := 16) [0,1,2,3,4,5,6,7,8,9,10] mixed (by kernel_rfl) ?_|refine CW.drawsSw (id := 17) [0, 1, 2, 3, 4, 5, 6, 7, 8, 10, 11, 12] [9, 13] 14 [15, 16, 17] mixed (by kernel_rfl) ?_|refine CW.drawsP (id := 22) [0,1,2,3,4,5,6,7,8,9,10] mixed (by kernel_rfl) ?_|refine CW.drawsSw (id := 23) [0, 1, 2, 3, 4, 5, 6, 7, 8, 10, 11, 12] [9, 13] 14 [15, 16, 17] mixed (by kernel_rfl) ?_|refine Gi2 (fun _=>?_) fun _=>?_|refine Gi3 ?_|refine Gi4 fun _=>?_|fail)
            rw [show (4 : Int) - (s : Int) + 1 = 5 - (s : Int) by omega]
            exact ⟨s, by omega, rfl, ⟨i2, _, rfl, suS (sdS (hd2.swp _ _)), by omega, by omega, by omega, hfin, inferInstance⟩, inferInstance, inferInstance, inferInstance, inferInstance⟩
          · rw [if_neg hu] at hfin
            repeat' (first|refine Gi0 fun _=>?_|refine Gi1 ?_|refine CW.drawsP (id := 5) [0,1,2,3,4,5,6,7,8,9,10,11,12,13,14,15] mixed (by kernel_rfl) ?_|refine CW.drawsSw (id := 11) [0, 1, 2, 3, 4, 5, 6, 7, 8, 10, 11, 12] [9, 13] 14 [15, 16, 17] mixed (by kernel_rfl) ?_|refine CW.drawsP (id := 16) [0,1,2,3,4,5,6,7,8,9,10] mixed (by kernel_rfl) ?_|refine CW.drawsSw (id := 17) [0, 1, 2, 3, 4, 5, 6, 7, 8, 10, 11, 12] [9, 13] 14 [15, 16, 17] mixed (by kernel_rfl) ?_|refine CW.drawsP (id := 22) [0,1,2,3,4,5,6,7,8,9,10] mixed (by kernel_rfl) ?_|refine CW.drawsSw (id := 23) [0, 1, 2, 3, 4, 5, 6, 7, 8, 10, 11, 12] [9, 13] 14 [15, 16, 17] mixed (by kernel_rfl) ?_|refine Gi2 (fun _=>?_) fun _=>?_|refine Gi3 ?_|refine Gi4 fun _=>?_|fail)
            rw [show (4 : Int) - (s : Int) + 1 = 5 - (s : Int) by omega]
            exact ⟨s, by omega, rfl, ⟨i2, _, rfl, (sdS (hd2.swp _ _)), by omega, by omega, by omega, hfin, inferInstance⟩, inferInstance, inferInstance, inferInstance, inferInstance⟩
        · rw [if_neg hdn] at hfin
          by_cases hu : hi - i2 ≥ 2
          · rw [if_pos hu] at hfin
            repeat' (first|refine Gi0 fun _=>?_|refine Gi1 ?_|refine CW.drawsP (id := 5) [0,1,2,3,4,5,6,7,8,9,10,11,12,13,14,15] mixed (by kernel_rfl) ?_|refine CW.drawsSw (id := 11) [0, 1, 2, 3, 4, 5, 6, 7, 8, 10, 11, 12] [9, 13] 14 [15, 16, 17] mixed (by kernel_rfl) ?_|refine CW.drawsP (id := 16) [0,1,2,3,4,5,6,7,8,9,10] mixed (by kernel_rfl) ?_|refine CW.drawsSw (id := 17) [0, 1, 2, 3, 4, 5, 6, 7, 8, 10, 11, 12] [9, 13] 14 [15, 16, 17] mixed (by kernel_rfl) ?_|refine CW.drawsP (id := 22) [0,1,2,3,4,5,6,7,8,9,10] mixed (by kernel_rfl) ?_|refine CW.drawsSw (id := 23) [0, 1, 2, 3, 4, 5, 6, 7, 8, 10, 11, 12] [9, 13] 14 [15, 16, 17] mixed (by kernel_rfl) ?_|refine Gi2 (fun _=>?_) fun _=>?_|refine Gi3 ?_|refine Gi4 fun _=>?_|fail)
            rw [show (i2 : Int) + 1 = ((i2 + 1 : Nat) : Int) by omega]
            refine CW.loopE 6 (fun ρ ds L' => ds = [] ∧ L' = (b, .cells (kvs .u32 (shiftUp ltInt hi (i2 + 1) (swp d2 i2 (i2 - 1))) ++ rest).toArray 25 (0, 0)) :: L ∧ Ev ρ 0 (.slice (some ⟨b, 0, none⟩) m cap) ∧ Ev ρ 1 (.int .i64 lo) ∧ Ev ρ 2 (.int .i64 hi) ∧ Ev ρ 7 (.int .i64 (i2 : Int)) ∧ Ev ρ 8 (.int .i64 (4 - (s : Int))))
              (fun k ρ ds L' => ds = [] ∧ (∃ j d5, L' = (b, .cells (kvs .u32 d5 ++ rest).toArray 25 (0, 0)) :: L ∧ Srt m d5 ∧ 1 ≤ j ∧ j ≤ hi ∧ k = hi - j ∧ shiftUp ltInt hi j d5 = shiftUp ltInt hi (i2 + 1) (swp d2 i2 (i2 - 1)) ∧ Ev ρ 10 (.int .i64 (j : Int))) ∧ Ev ρ 0 (.slice (some ⟨b, 0, none⟩) m cap) ∧ Ev ρ 1 (.int .i64 lo) ∧ Ev ρ 2 (.int .i64 hi) ∧ Ev ρ 7 (.int .i64 (i2 : Int)) ∧ Ev ρ 8 (.int .i64 (4 - (s : Int)))) (hi - (i2 + 1))
              ⟨rfl, ⟨i2 + 1, (swp d2 i2 (i2 - 1)), rfl, (hd2.swp _ _), by omega, by omega, rfl, rfl, inferInstance⟩, inferInstance, inferInstance, inferInstance, inferInstance, inferInstance⟩ ?_ ?_
            · rintro k ρ ds L' ⟨rfl, ⟨j, d5, rfl, hd5, hj0, hj1, rfl, hsu, e10⟩, e0, e1, e2, e7, e8⟩
              by_cases hjh : j < hi
              · have l8 : LtS j d5.size := ⟨by rw [hd5.size]; omega⟩
                have l9 : LtS (j - 1) d5.size := ⟨by rw [hd5.size]; omega⟩
                have t8 : ToN ((j : Int) - 1) (j - 1) := ⟨by omega⟩
                repeat' (first|refine Gi0 fun _=>?_|refine Gi1 ?_|refine CW.drawsP (id := 5) [0,1,2,3,4,5,6,7,8,9,10,11,12,13,14,15] mixed (by kernel_rfl) ?_|refine CW.drawsSw (id := 11) [0, 1, 2, 3, 4, 5, 6, 7, 8, 10, 11, 12] [9, 13] 14 [15, 16, 17] mixed (by kernel_rfl) ?_|refine CW.drawsP (id := 16) [0,1,2,3,4,5,6,7,8,9,10] mixed (by kernel_rfl) ?_|refine CW.drawsSw (id := 17) [0, 1, 2, 3, 4, 5, 6, 7, 8, 10, 11, 12] [9, 13] 14 [15, 16, 17] mixed (by kernel_rfl) ?_|refine CW.drawsP (id := 22) [0,1,2,3,4,5,6,7,8,9,10] mixed (by kernel_rfl) ?_|refine CW.drawsSw (id := 23) [0, 1, 2, 3, 4, 5, 6, 7, 8, 10, 11, 12] [9, 13] 14 [15, 16, 17] mixed (by kernel_rfl) ?_|refine Gi2 (fun _=>?_) fun _=>?_|refine Gi3 ?_|refine Gi4 fun _=>?_|fail)
                refine RW.call (lessU _ _ _) ?_
                rintro _ _ ⟨rfl, rfl⟩
                refine pinAll ?_
                cases hc5 : ltInt d5[j]! d5[j - 1]! with
                | true =>
                  rw [su_step hjh hc5] at hsu
                  repeat' (first|refine Gi0 fun _=>?_|refine Gi1 ?_|refine CW.drawsP (id := 5) [0,1,2,3,4,5,6,7,8,9,10,11,12,13,14,15] mixed (by kernel_rfl) ?_|refine CW.drawsSw (id := 11) [0, 1, 2, 3, 4, 5, 6, 7, 8, 10, 11, 12] [9, 13] 14 [15, 16, 17] mixed (by kernel_rfl) ?_|refine CW.drawsP (id := 16) [0,1,2,3,4,5,6,7,8,9,10] mixed (by kernel_rfl) ?_|refine CW.drawsSw (id := 17) [0, 1, 2, 3, 4, 5, 6, 7, 8, 10, 11, 12] [9, 13] 14 [15, 16, 17] mixed (by kernel_rfl) ?_|refine CW.drawsP (id := 22) [0,1,2,3,4,5,6,7,8,9,10] mixed (by kernel_rfl) ?_|refine CW.drawsSw (id := 23) [0, 1, 2, 3, 4, 5, 6, 7, 8, 10, 11, 12] [9, 13] 14 [15, 16, 17] mixed (by kernel_rfl) ?_|refine Gi2 (fun _=>?_) fun _=>?_|refine Gi3 ?_|refine Gi4 fun _=>?_|fail)
                  rw [show (j : Int) + 1 = ((j + 1 : Nat) : Int) by omega]
                  exact ⟨hi - (j + 1), by omega, rfl, ⟨j + 1, swp d5 j (j - 1), rfl, hd5.swp _ _, by omega, by omega, rfl, hsu, inferInstance⟩, inferInstance, inferInstance, inferInstance, inferInstance, inferInstance⟩
                | false =>
                  rw [su_end (fun h => by rw [hc5] at h; cases h.2)] at hsu
                  rw [← hsu]
                  repeat' (first|refine Gi0 fun _=>?_|refine Gi1 ?_|refine CW.drawsP (id := 5) [0,1,2,3,4,5,6,7,8,9,10,11,12,13,14,15] mixed (by kernel_rfl) ?_|refine CW.drawsSw (id := 11) [0, 1, 2, 3, 4, 5, 6, 7, 8, 10, 11, 12] [9, 13] 14 [15, 16, 17] mixed (by kernel_rfl) ?_|refine CW.drawsP (id := 16) [0,1,2,3,4,5,6,7,8,9,10] mixed (by kernel_rfl) ?_|refine CW.drawsSw (id := 17) [0, 1, 2, 3, 4, 5, 6, 7, 8, 10, 11, 12] [9, 13] 14 [15, 16, 17] mixed (by kernel_rfl) ?_|refine CW.drawsP (id := 22) [0,1,2,3,4,5,6,7,8,9,10] mixed (by kernel_rfl) ?_|refine CW.drawsSw (id := 23) [0, 1, 2, 3, 4, 5, 6, 7, 8, 10, 11, 12] [9, 13] 14 [15, 16, 17] mixed (by kernel_rfl) ?_|refine Gi2 (fun _=>?_) fun _=>?_|refine Gi3 ?_|refine Gi4 fun _=>?_|fail)
                  exact exitK_to ⟨rfl, rfl, inferInstance, inferInstance, inferInstance, inferInstance, inferInstance⟩
              · rw [su_end (fun h => hjh h.1)] at hsu
                rw [← hsu]
                repeat' (first|refine Gi0 fun _=>?_|refine Gi1 ?_|refine CW.drawsP (id := 5) [0,1,2,3,4,5,6,7,8,9,10,11,12,13,14,15] mixed (by kernel_rfl) ?_|refine CW.drawsSw (id := 11) [0, 1, 2, 3, 4, 5, 6, 7, 8, 10, 11, 12] [9, 13] 14 [15, 16, 17] mixed (by kernel_rfl) ?_|refine CW.drawsP (id := 16) [0,1,2,3,4,5,6,7,8,9,10] mixed (by kernel_rfl) ?_|refine CW.drawsSw (id := 17) [0, 1, 2, 3, 4, 5, 6, 7, 8, 10, 11, 12] [9, 13] 14 [15, 16, 17] mixed (by kernel_rfl) ?_|refine CW.drawsP (id := 22) [0,1,2,3,4,5,6,7,8,9,10] mixed (by kernel_rfl) ?_|refine CW.drawsSw (id := 23) [0, 1, 2, 3, 4, 5, 6, 7, 8, 10, 11, 12] [9, 13] 14 [15, 16, 17] mixed (by kernel_rfl) ?_|refine Gi2 (fun _=>?_) fun _=>?_|refine Gi3 ?_|refine Gi4 fun _=>?_|fail)
                exact exitK_to ⟨rfl, rfl, inferInstance, inferInstance, inferInstance, inferInstance, inferInstance⟩
            rintro ρ ds L' ⟨rfl, rfl, e0, e1, e2, e7, e8⟩
            repeat' (first|refine Gi0 fun _=>?_|refine Gi1 ?_|refine CW.drawsP (id := 5) [0,1,2,3,4,5,6,7,8,9,10,11,12,13,14,15] mixed (by kernel_rfl) ?_|refine CW.drawsSw (id := 11) [0, 1, 2, 3, 4, 5, 6, 7, 8, 10, 11, 12] [9, 13] 14 [15, 16, 17] mixed (by kernel_rfl) ?_|refine CW.drawsP (id := 16) [0,1,2,3,4,5,6,7,8,9,10] mixed (by kernel_rfl) ?_|refine CW.drawsSw (id := 17) [0, 1, 2, 3, 4, 5, 6, 7, 8, 10, 11, 12] [9, 13] 14 [15, 16, 17] mixed (by kernel_rfl) ?_|refine CW.drawsP (id := 22) [0,1,2,3,4,5,6,7,8,9,10] mixed (by kernel_rfl) ?_|refine CW.drawsSw (id := 23) [0, 1, 2, 3, 4, 5, 6, 7, 8, 10, 11, 12] [9, 13] 14 [15, 16, 17] mixed (by kernel_rfl) ?_|refine Gi2 (fun _=>?_) fun _=>?_|refine Gi3 ?_|refine Gi4 fun _=>?_|fail)
            rw [show (4 : Int) - (s : Int) + 1 = 5 - (s : Int) by omega]
            exact ⟨s, by omega, rfl, ⟨i2, _, rfl, suS (hd2.swp _ _), by omega, by omega, by omega, hfin, inferInstance⟩, inferInstance, inferInstance, inferInstance, inferInstance⟩
          · exact absurd hsm (by omega)
end Go.Proofs.YtocjgcmgkaabiaaGreat
