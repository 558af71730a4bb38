/-
  For every input the law OrderLeast returns true, and each argument reads behind the call as it read before. This text holds lemmas for it (part 18).
  Conditions: none.
-/
import Derived.Test.YtmnhooepaemlcaaGreatOL2
import Derived.Test.YtmnhooepaemlcaaGreatOL3
import Derived.Test.YtmnhooepaemlcaaGreatOL15
import Derived.Test.YtmnhooepaemlcaaGreatOL17
set_option linter.all false
namespace Go.Proofs.YtmnhooepaemlcaaGreat
open Go Go.Pw Go.Pw.Sc Go.Pw.Md Go.Pw.Or
set_option maxRecDepth 100000
set_option maxHeartbeats 4000000
set_option synthInstance.maxHeartbeats 400000
set_option synthInstance.maxSize 2000
attribute [local irreducible] CW OW RW thenK blockK
attribute [local irreducible] scopeK loopK TRW ATW
theorem dkThread (x : Int) (L : Chunk) : Fn1 Tryz.prog 79 [.int .i64 x] L (fun u L' => u = .bool (decide (0 ≤ x ∧ x < 4)) ∧ L = L') := by
 intro w0; refine Spec.enter1 Tryz.func79 rfl Tryz.ntmps79 (by decide) ?_
 repeat' (first|refine Ga0 fun _=>?_|refine Ga1 ?_|refine Ga2 (fun _=>?_) fun _=>?_|refine Ga3 ?_|refine Ga4 fun _=>?_|fail)
 ·exact bodyK.retD L (Res.one Tryz.results79) ⟨by rw [decide_eq_true (by omega)], rfl⟩
 ·exact bodyK.retD L (Res.one Tryz.results79) ⟨by rw [decide_eq_false (by omega)], rfl⟩
 ·exact bodyK.retD L (Res.one Tryz.results79) ⟨by rw [decide_eq_false (by omega)], rfl⟩
theorem dkSlot (x : Int) (L : Chunk) : Fn1 Tryz.prog 137 [.int .i64 x] L (fun u L' => u = .bool (decide (0 ≤ x ∧ x < 4)) ∧ L = L') := by
 intro w0; refine Spec.enter1 Tryz.func137 rfl Tryz.ntmps137 (by decide) ?_
 repeat' (first|refine Ga0 fun _=>?_|refine Ga1 ?_|refine Ga2 (fun _=>?_) fun _=>?_|refine Ga3 ?_|refine Ga4 fun _=>?_|fail)
 ·exact bodyK.retD L (Res.one Tryz.results137) ⟨by rw [decide_eq_true (by omega)], rfl⟩
 ·exact bodyK.retD L (Res.one Tryz.results137) ⟨by rw [decide_eq_false (by omega)], rfl⟩
 ·exact bodyK.retD L (Res.one Tryz.results137) ⟨by rw [decide_eq_false (by omega)], rfl⟩
theorem rAhead (a b : Td) (v1 v2 v3 v4 : Value) (L : Chunk) [s1 : Sng v1] [s2 : Sng v2] [s3 : Sng v3] [s4 : Sng v4] : Fn1 Tryz.prog 42 [.agg (tdC a v1 v2).toArray, .agg (tdC b v3 v4).toArray] L (fun u L' => u = .bool (decide (aheadP a b)) ∧ L = L') := by
 intro w0; refine Spec.enter2 Tryz.func42 rfl Tryz.ntmps42 (by decide) ?_
 by_cases h : a.to_ < b.from_
 ·rw [show decide (aheadP a b) = true from decide_eq_true h]
  repeat' (first|refine Ga0 fun _=>?_|refine Ga1 ?_|refine Ga2 (fun _=>?_) fun _=>?_|refine Ga3 ?_|refine Ga4 fun _=>?_|fail)
  exact bodyK.retD L (Res.one Tryz.results42) ⟨rfl, rfl⟩
 ·rw [show decide (aheadP a b) = false from decide_eq_false h]
  repeat' (first|refine Ga0 fun _=>?_|refine Ga1 ?_|refine Ga2 (fun _=>?_) fun _=>?_|refine Ga3 ?_|refine Ga4 fun _=>?_|fail)
  exact bodyK.retD L (Res.one Tryz.results42) ⟨rfl, rfl⟩
theorem rCheck0 (v : Value) (l : List Td) (L : Chunk) (hl : LS 13 TdAt L v l) (hc : checkE l = 0) : Fn1 Tryz.prog 138 [v] L (fun u L' => u = .int .i64 0 ∧ L = L') := by
 have h10 := len10 hc
 obtain ⟨av, cv, rfl⟩ := hl.slice
 have hll := hl.len
 intro w0; refine Spec.enter1 Tryz.func138 rfl Tryz.ntmps138 (by decide) ?_
 repeat' (first|refine Gi0 fun _=>?_|refine Gi1 ?_|refine CW.drawsP (id := 10) [0,1,2,3,4,5,6,7,8,9,10,11,12,13,14,15,16,17,18,19,20,21,22,23,24,25] mixed (by kernel_rfl) ?_|refine Gi2 (fun _=>?_) fun _=>?_|refine Gi3 ?_|refine Gi4 fun _=>?_|fail)
 refine CW.count l.length (fun i ρ ds L' => ds = [] ∧ (∃ X, L' = X ++ L) ∧ Ev ρ 0 (.slice av l.length cv) ∧ Ev ρ 3 (.int .i64 (i : Int))) ⟨rfl, ⟨[], rfl⟩, inferInstance, inferInstance⟩ ?_
 rintro i ρ ds L' hi ⟨rfl, ⟨X, rfl⟩, e0, e3⟩
 by_cases hlt : i < l.length
 ·obtain ⟨bk, kk, capk, lk, ek, frk, hbe, hbin, hbc, hbn⟩ := hl.open (by omega)
  cases hbe
  obtain ⟨cc, hcut, vx, vb, rfl, hvx, hvb, htr⟩ := hbn i hlt
  have q1 := hvx.sng
  have q2 := hvb.sng
  have hlti : (i : Int) < l.length := by omega
  obtain ⟨hok, hcr⟩ := check_ok hc hlt
  generalize l[i] = x at *
  have o1 := hok.1
  have o2 := hok.2.1
  have o3 := hok.2.2.1
  have o4 := hok.2.2.2.1
  have o5 := hok.2.2.2.2.1
  have o6 := hok.2.2.2.2.2
  repeat' (first|refine Gi0 fun _=>?_|refine Gi1 ?_|refine CW.drawsP (id := 10) [0,1,2,3,4,5,6,7,8,9,10,11,12,13,14,15,16,17,18,19,20,21,22,23,24,25] mixed (by kernel_rfl) ?_|refine Gi2 (fun _=>?_) fun _=>?_|refine Gi3 ?_|refine Gi4 fun _=>?_|fail)
  rename_i b4
  refine OW.call (dkThread x.thread _) ?_
  rintro _ _ ⟨rfl, rfl⟩
  rw [decide_eq_true (show 0 ≤ x.thread ∧ x.thread < 4 from ⟨o1, o2⟩)]
  repeat' (first|refine Gi0 fun _=>?_|refine Gi1 ?_|refine CW.drawsP (id := 10) [0,1,2,3,4,5,6,7,8,9,10,11,12,13,14,15,16,17,18,19,20,21,22,23,24,25] mixed (by kernel_rfl) ?_|refine Gi2 (fun _=>?_) fun _=>?_|refine Gi3 ?_|refine Gi4 fun _=>?_|fail)
  refine OW.call (kind_ x.op.kind _) ?_
  rintro _ _ ⟨rfl, rfl⟩
  rw [decide_eq_true (show 1 ≤ x.op.kind ∧ x.op.kind ≤ 7 from ⟨o5, o6⟩)]
  repeat' (first|refine Gi0 fun _=>?_|refine Gi1 ?_|refine CW.drawsP (id := 10) [0,1,2,3,4,5,6,7,8,9,10,11,12,13,14,15,16,17,18,19,20,21,22,23,24,25] mixed (by kernel_rfl) ?_|refine Gi2 (fun _=>?_) fun _=>?_|refine Gi3 ?_|refine Gi4 fun _=>?_|fail)
  refine CW.count i (fun k ρ ds L' => ds = [] ∧ L' = (b4, .cells (tdC x vx vb).toArray 103 (0, 0)) :: (X ++ L) ∧ Ev ρ 0 (.slice (some ⟨bk, kk, none⟩) l.length cv) ∧ Ev ρ 3 (.int .i64 (i : Int)) ∧ Ev ρ 4 (.pointer (some ⟨b4, 0, none⟩)) ∧ Ev ρ 5 (.int .i64 (k : Int))) ⟨rfl, rfl, inferInstance, inferInstance, inferInstance, inferInstance⟩ ?_
  rintro k ρ ds L' hk ⟨rfl, rfl, e0, e3, e4, e5⟩
  by_cases hlk : k < i
  ·have hkl : k < l.length := by omega
   obtain ⟨cc, hcutk, wx, wb, rfl, hwx, hwb, htrk⟩ := hbn k hkl
   have q3 := hwx.sng
   have q4 := hwb.sng
   have hcrk := hcr k hlk
   clear hbn hcr
   generalize l[k] = y at *
   have g0 : NthL lk (kk + k * 13) (.int .i64 y.thread) := nth_cut 0 hcutk rfl
   have hki : (k : Int) < l.length := by omega
   have hki2 : (k : Int) < i := by omega
   by_cases c1 : y.thread = x.thread
   ·repeat' (first|refine Gi0 fun _=>?_|refine Gi1 ?_|refine CW.drawsP (id := 10) [0,1,2,3,4,5,6,7,8,9,10,11,12,13,14,15,16,17,18,19,20,21,22,23,24,25] mixed (by kernel_rfl) ?_|refine Gi2 (fun _=>?_) fun _=>?_|refine Gi3 ?_|refine Gi4 fun _=>?_|fail)
    refine RW.call (rAhead y x wx wb vx vb _) ?_
    rintro _ _ ⟨rfl, rfl⟩
    refine pinAll ?_
    by_cases c2 : aheadP y x
    ·rw [decide_eq_true c2]
     repeat' (first|refine Gi0 fun _=>?_|refine Gi1 ?_|refine CW.drawsP (id := 10) [0,1,2,3,4,5,6,7,8,9,10,11,12,13,14,15,16,17,18,19,20,21,22,23,24,25] mixed (by kernel_rfl) ?_|refine Gi2 (fun _=>?_) fun _=>?_|refine Gi3 ?_|refine Gi4 fun _=>?_|fail)
     exact ⟨hlk, rfl, rfl, inferInstance, inferInstance, inferInstance, by rw [Int.natCast_add]; infer_instance⟩
    ·rw [decide_eq_false c2]
     repeat' (first|refine Gi0 fun _=>?_|refine Gi1 ?_|refine CW.drawsP (id := 10) [0,1,2,3,4,5,6,7,8,9,10,11,12,13,14,15,16,17,18,19,20,21,22,23,24,25] mixed (by kernel_rfl) ?_|refine Gi2 (fun _=>?_) fun _=>?_|refine Gi3 ?_|refine Gi4 fun _=>?_|fail)
     refine RW.call (rAhead x y vx vb wx wb _) ?_
     rintro _ _ ⟨rfl, rfl⟩
     refine pinAll ?_
     rw [decide_eq_true (show aheadP x y from Classical.byContradiction fun h => hcrk ⟨c1, c2, h⟩)]
     repeat' (first|refine Gi0 fun _=>?_|refine Gi1 ?_|refine CW.drawsP (id := 10) [0,1,2,3,4,5,6,7,8,9,10,11,12,13,14,15,16,17,18,19,20,21,22,23,24,25] mixed (by kernel_rfl) ?_|refine Gi2 (fun _=>?_) fun _=>?_|refine Gi3 ?_|refine Gi4 fun _=>?_|fail)
     exact ⟨hlk, rfl, rfl, inferInstance, inferInstance, inferInstance, by rw [Int.natCast_add]; infer_instance⟩
   ·repeat' (first|refine Gi0 fun _=>?_|refine Gi1 ?_|refine CW.drawsP (id := 10) [0,1,2,3,4,5,6,7,8,9,10,11,12,13,14,15,16,17,18,19,20,21,22,23,24,25] mixed (by kernel_rfl) ?_|refine Gi2 (fun _=>?_) fun _=>?_|refine Gi3 ?_|refine Gi4 fun _=>?_|fail)
    exact ⟨hlk, rfl, rfl, inferInstance, inferInstance, inferInstance, by rw [Int.natCast_add]; infer_instance⟩
  ·obtain rfl : k = i := by omega
   repeat' (first|refine Gi0 fun _=>?_|refine Gi1 ?_|refine CW.drawsP (id := 10) [0,1,2,3,4,5,6,7,8,9,10,11,12,13,14,15,16,17,18,19,20,21,22,23,24,25] mixed (by kernel_rfl) ?_|refine Gi2 (fun _=>?_) fun _=>?_|refine Gi3 ?_|refine Gi4 fun _=>?_|fail)
   exact ⟨hlt, rfl, ⟨_ :: X, rfl⟩, inferInstance, by rw [Int.natCast_add]; infer_instance⟩
 ·obtain rfl : i = l.length := by omega
  have : (l.length : Int) ≤ 10 := by omega
  repeat' (first|refine Gi0 fun _=>?_|refine Gi1 ?_|refine CW.drawsP (id := 10) [0,1,2,3,4,5,6,7,8,9,10,11,12,13,14,15,16,17,18,19,20,21,22,23,24,25] mixed (by kernel_rfl) ?_|refine Gi2 (fun _=>?_) fun _=>?_|refine Gi3 ?_|refine Gi4 fun _=>?_|fail)
  exact bodyK.retD L (Res.one Tryz.results138) ⟨rfl, rfl⟩
theorem rAsked0 (slot quota : Int) (v : Value) (l : List Td) (L : Chunk) (hl : LS 13 TdAt L v l) (hf : findE slot quota l = 0) : Fn1 Tryz.prog 95 [.int .i64 slot, .int .i64 quota, v] L (fun u L' => u = .int .i64 0 ∧ L = L') := by
 have sv := hl.sng
 have hok : okS slot quota := by
  unfold findE at hf
  split at hf
  ·assumption
  ·cases hf
 have hc : checkE l = 0 := by unfold findE at hf; rwa [if_pos hok] at hf
 obtain ⟨o1, o2, o3, o4⟩ := hok
 intro w0; refine Spec.enter3 Tryz.func95 rfl Tryz.ntmps95 (by decide) ?_
 repeat' (first|refine Ga0 fun _=>?_|refine Ga1 ?_|refine Ga2 (fun _=>?_) fun _=>?_|refine Ga3 ?_|refine Ga4 fun _=>?_|fail)
 refine OW.call (dkSlot slot _) ?_
 rintro _ _ ⟨rfl, rfl⟩
 rw [decide_eq_true (show 0 ≤ slot ∧ slot < 4 from ⟨o1, o2⟩)]
 repeat' (first|refine Ga0 fun _=>?_|refine Ga1 ?_|refine Ga2 (fun _=>?_) fun _=>?_|refine Ga3 ?_|refine Ga4 fun _=>?_|fail)
 refine OW.call (rCheck0 v l _ hl hc) ?_
 rintro _ _ ⟨rfl, rfl⟩
 repeat' (first|refine Ga0 fun _=>?_|refine Ga1 ?_|refine Ga2 (fun _=>?_) fun _=>?_|refine Ga3 ?_|refine Ga4 fun _=>?_|fail)
 exact bodyK.retD L (Res.one Tryz.results95) ⟨rfl, rfl⟩
theorem rPlaces (v : Value) (zs : List Int) (n : Nat) (L : Chunk) (hv : Rd L 1 v zs.length (zs.map (Value.int .i64))) (hn : n ≤ 10) (hz : zs.length ≤ 1000) :
  Fn1 Tryz.prog 96 [v, .int .i64 (n : Int)] L (fun u L' => ((u = .bool true ∧ ∃ o : List Nat, zs = o.map (fun (k : Nat) => (k : Int)) ∧ o.Perm (List.range n)) ∨ u = .bool false) ∧ L = L') := by
 obtain ⟨av, cv, rfl, _⟩ := hv.isSlice
 intro w0; refine Spec.enter2 Tryz.func96 rfl Tryz.ntmps96 (by decide) ?_
 by_cases hln : zs.length = n
 ·have hlni : (zs.length : Int) = n := by omega
  repeat' (first|refine Gi0 fun _=>?_|refine Gi1 ?_|refine CW.drawsP (id := 11) [0,1,2,3,4,5,6,7,8] mixed (by kernel_rfl) ?_|refine Gi2 (fun _=>?_) fun _=>?_|refine Gi3 ?_|refine Gi4 fun _=>?_|fail)
  refine CW.count n (fun i ρ ds L' => ds = [] ∧ L' = L ∧ (∀ j (hj : j < zs.length), j < i → 0 ≤ zs[j] ∧ zs[j] < n ∧ ∀ k (hk : k < zs.length), k < j → zs[k] ≠ zs[j]) ∧ Ev ρ 0 (.slice av zs.length cv) ∧ Ev ρ 1 (.int .i64 (n : Int)) ∧ Ev ρ 5 (.int .i64 (i : Int))) ⟨rfl, rfl, fun j _ hj => by omega, inferInstance, inferInstance, inferInstance⟩ ?_
  rintro i ρ ds L' hi ⟨rfl, rfl, hI, e0, e1, e5⟩
  by_cases hlt : i < n
  ·obtain ⟨bk, kk, capk, lk, ek, frk, hbe, hbin, hbc, hbn⟩ := hv.open1 (by omega)
   cases hbe
   have hlz : i < zs.length := by omega
   have hnth := hbn i (.int .i64 zs[i]) hlz (by simp [List.getElem?_eq_getElem hlz])
   have hlti : (i : Int) < zs.length := by omega
   generalize hz0 : zs[i] = z at *
   by_cases c1 : z < 0
   ·repeat' (first|refine Gi0 fun _=>?_|refine Gi1 ?_|refine CW.drawsP (id := 11) [0,1,2,3,4,5,6,7,8] mixed (by kernel_rfl) ?_|refine Gi2 (fun _=>?_) fun _=>?_|refine Gi3 ?_|refine Gi4 fun _=>?_|fail)
    exact bodyK.retD L' (Res.one Tryz.results96) ⟨.inr rfl, rfl⟩
   ·by_cases c2 : n ≤ z
    ·repeat' (first|refine Gi0 fun _=>?_|refine Gi1 ?_|refine CW.drawsP (id := 11) [0,1,2,3,4,5,6,7,8] mixed (by kernel_rfl) ?_|refine Gi2 (fun _=>?_) fun _=>?_|refine Gi3 ?_|refine Gi4 fun _=>?_|fail)
     exact bodyK.retD L' (Res.one Tryz.results96) ⟨.inr rfl, rfl⟩
    ·repeat' (first|refine Gi0 fun _=>?_|refine Gi1 ?_|refine CW.drawsP (id := 11) [0,1,2,3,4,5,6,7,8] mixed (by kernel_rfl) ?_|refine Gi2 (fun _=>?_) fun _=>?_|refine Gi3 ?_|refine Gi4 fun _=>?_|fail)
     refine CW.count i (fun k ρ ds L'' => ds = [] ∧ L'' = L' ∧ (∀ j (hj : j < zs.length), j < k → zs[j] ≠ z) ∧ Ev ρ 0 (.slice (some ⟨bk, kk, none⟩) zs.length cv) ∧ Ev ρ 1 (.int .i64 (n : Int)) ∧ Ev ρ 5 (.int .i64 (i : Int)) ∧ Ev ρ 6 (.int .i64 (k : Int))) ⟨rfl, rfl, fun j _ hj => by omega, inferInstance, inferInstance, inferInstance, inferInstance⟩ ?_
     rintro k ρ ds L'' hk ⟨rfl, rfl, hJ, e0, e1, e5, e6⟩
     by_cases hlk : k < i
     ·have hkz : k < zs.length := by omega
      have hnthk := hbn k (.int .i64 zs[k]) hkz (by simp [List.getElem?_eq_getElem hkz])
      have hki : (k : Int) < zs.length := by omega
      have hki2 : (k : Int) < i := by omega
      have hnx : zs[k] ≠ z → ∀ j (hj : j < zs.length), j < k + 1 → zs[j] ≠ z := fun h j hj hjk => by
       by_cases e : j = k
       ·subst e; exact h
       ·exact hJ j hj (by omega)
      clear hbn hJ
      generalize zs[k] = y at *
      by_cases c3 : y = z
      ·repeat' (first|refine Gi0 fun _=>?_|refine Gi1 ?_|refine CW.drawsP (id := 11) [0,1,2,3,4,5,6,7,8] mixed (by kernel_rfl) ?_|refine Gi2 (fun _=>?_) fun _=>?_|refine Gi3 ?_|refine Gi4 fun _=>?_|fail)
       exact bodyK.retD L'' (Res.one Tryz.results96) ⟨.inr rfl, rfl⟩
      ·repeat' (first|refine Gi0 fun _=>?_|refine Gi1 ?_|refine CW.drawsP (id := 11) [0,1,2,3,4,5,6,7,8] mixed (by kernel_rfl) ?_|refine Gi2 (fun _=>?_) fun _=>?_|refine Gi3 ?_|refine Gi4 fun _=>?_|fail)
       exact ⟨hlk, rfl, rfl, hnx c3, inferInstance, inferInstance, inferInstance, by rw [Int.natCast_add]; infer_instance⟩
     ·obtain rfl : k = i := by omega
      repeat' (first|refine Gi0 fun _=>?_|refine Gi1 ?_|refine CW.drawsP (id := 11) [0,1,2,3,4,5,6,7,8] mixed (by kernel_rfl) ?_|refine Gi2 (fun _=>?_) fun _=>?_|refine Gi3 ?_|refine Gi4 fun _=>?_|fail)
      refine ⟨hlt, rfl, rfl, fun j hj hjk => ?_, inferInstance, inferInstance, by rw [Int.natCast_add]; infer_instance⟩
      by_cases e : j = k
      ·subst e
       rw [hz0]
       exact ⟨by omega, by omega, fun k hk hkj => hJ k hk hkj⟩
      ·exact hI j hj (by omega)
  ·obtain rfl : i = n := by omega
   repeat' (first|refine Gi0 fun _=>?_|refine Gi1 ?_|refine CW.drawsP (id := 11) [0,1,2,3,4,5,6,7,8] mixed (by kernel_rfl) ?_|refine Gi2 (fun _=>?_) fun _=>?_|refine Gi3 ?_|refine Gi4 fun _=>?_|fail)
   refine bodyK.retD L' (Res.one Tryz.results96) ⟨.inl ⟨rfl, zs.map Int.toNat, ?_, ?_⟩, rfl⟩
   ·rw [List.map_map]
    conv => lhs; rw [← List.map_id zs]
    refine List.map_congr_left fun z hz => ?_
    obtain ⟨j, hj, rfl⟩ := List.getElem_of_mem hz
    have := (hI j hj (by omega)).1
    simp only [id_eq, Function.comp_apply]
    omega
   ·refine perm_range ?_ ?_ (by rw [List.length_map]; exact hln)
    ·rw [List.Nodup, List.pairwise_map, List.pairwise_iff_getElem]
     intro a b ha hb hab
     have h1 := hI a ha (by omega)
     have h2 := hI b hb (by omega)
     have h3 := h2.2.2 a ha hab
     omega
    ·intro z hz
     obtain ⟨x, hx, rfl⟩ := List.mem_map.1 hz
     obtain ⟨j, hj, rfl⟩ := List.getElem_of_mem hx
     have := hI j hj (by omega)
     omega
 ·have hlni : ¬ (zs.length : Int) = n := by omega
  repeat' (first|refine Gi0 fun _=>?_|refine Gi1 ?_|refine CW.drawsP (id := 11) [0,1,2,3,4,5,6,7,8] mixed (by kernel_rfl) ?_|refine Gi2 (fun _=>?_) fun _=>?_|refine Gi3 ?_|refine Gi4 fun _=>?_|fail)
  exact bodyK.retD L (Res.one Tryz.results96) ⟨.inr rfl, rfl⟩
end Go.Proofs.YtmnhooepaemlcaaGreat
