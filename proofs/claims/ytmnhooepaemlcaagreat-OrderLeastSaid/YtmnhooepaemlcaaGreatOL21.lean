/-
  For every input the law OrderLeast returns true, and each argument reads behind the call as it read before. This text holds lemmas for it (part 21).
  Conditions: none.
-/
import Derived.Test.YtmnhooepaemlcaaGreatOL2
import Derived.Test.YtmnhooepaemlcaaGreatOL19
import Derived.Test.YtmnhooepaemlcaaGreatOL20
set_option linter.all false
namespace Go.Proofs.YtmnhooepaemlcaaGreat
open Go Go.Pw Go.Pw.Sc Go.Pw.Md Go.Pw.Or
set_option maxRecDepth 100000
set_option maxHeartbeats 4000000
set_option synthInstance.maxHeartbeats 400000
set_option synthInstance.maxSize 2000
attribute [local irreducible] CW OW RW thenK blockK
attribute [local irreducible] scopeK loopK TRW ATW
theorem orderLeast (a0 a1 : Int) (lv ov : Value) (l : List Td) (zs : List Int) (L : Chunk) (hl : LS 13 TdAt L lv l) (hv : Rd L 1 ov zs.length (zs.map (Value.int .i64))) (hzl : (zs.length : Int) ≤ 9223372036854775807) :
  Fn1 Tryz.prog 7 [.agg #[.int .i64 a0, .int .i64 a1], lv, ov] L (fun u L' => u = .bool true ∧ L = L') := by
 have sl := hl.sng
 obtain ⟨aw, cw, rfl, _⟩ := hv.isSlice
 intro w0; refine Spec.enter3 Tryz.func7 rfl Tryz.ntmps7 (by decide) ?_
 repeat' (first|refine Gi0 fun _=>?_|refine Gi1 ?_|refine CW.drawsP (id := 1) [0,1,2,3,4,5] mixed (by kernel_rfl) ?_|refine CW.drawsP (id := 19) [0,1,2,3,4,5,6,7,8] mixed (by kernel_rfl) ?_|refine CW.drawsP (id := 20) [0,1,2,3,4,5,6,7,8,9,10,11,12] mixed (by kernel_rfl) ?_|refine Gi2 (fun _=>?_) fun _=>?_|refine Gi3 ?_|refine Gi4 fun _=>?_|fail)
 rename_i b3
 refine OW.call (few30 lv l 7 _ (LS.to hl (fun c a h => TdAt.to c a h))) ?_
 rintro _ _ ⟨⟨rfl, h7⟩ | rfl, rfl⟩
 ·by_cases hz7 : (7 : Int) < zs.length
  ·repeat' (first|refine Gi0 fun _=>?_|refine Gi1 ?_|refine CW.drawsP (id := 1) [0,1,2,3,4,5] mixed (by kernel_rfl) ?_|refine CW.drawsP (id := 19) [0,1,2,3,4,5,6,7,8] mixed (by kernel_rfl) ?_|refine CW.drawsP (id := 20) [0,1,2,3,4,5,6,7,8,9,10,11,12] mixed (by kernel_rfl) ?_|refine Gi2 (fun _=>?_) fun _=>?_|refine Gi3 ?_|refine Gi4 fun _=>?_|fail)
   refine OW.call (works30 _) ?_
   rintro _ _ ⟨rfl, rfl⟩
   repeat' (first|refine Gi0 fun _=>?_|refine Gi1 ?_|refine CW.drawsP (id := 1) [0,1,2,3,4,5] mixed (by kernel_rfl) ?_|refine CW.drawsP (id := 19) [0,1,2,3,4,5,6,7,8] mixed (by kernel_rfl) ?_|refine CW.drawsP (id := 20) [0,1,2,3,4,5,6,7,8,9,10,11,12] mixed (by kernel_rfl) ?_|refine Gi2 (fun _=>?_) fun _=>?_|refine Gi3 ?_|refine Gi4 fun _=>?_|fail)
   exact bodyK.retD L (Res.one Tryz.results7) ⟨rfl, rfl⟩
  ·repeat' (first|refine Gi0 fun _=>?_|refine Gi1 ?_|refine CW.drawsP (id := 1) [0,1,2,3,4,5] mixed (by kernel_rfl) ?_|refine CW.drawsP (id := 19) [0,1,2,3,4,5,6,7,8] mixed (by kernel_rfl) ?_|refine CW.drawsP (id := 20) [0,1,2,3,4,5,6,7,8,9,10,11,12] mixed (by kernel_rfl) ?_|refine Gi2 (fun _=>?_) fun _=>?_|refine Gi3 ?_|refine Gi4 fun _=>?_|fail)
   refine OW.call (oFindAll a0 a1 lv l _ (LS.to hl (fun c a h => TdAt.to c a h))) ?_
   rintro _ _ (⟨hf, rfl, rfl⟩ | ⟨hf, hok, N, rfl, hm⟩)
   ·repeat' (first|refine Gi0 fun _=>?_|refine Gi1 ?_|refine CW.drawsP (id := 1) [0,1,2,3,4,5] mixed (by kernel_rfl) ?_|refine CW.drawsP (id := 19) [0,1,2,3,4,5,6,7,8] mixed (by kernel_rfl) ?_|refine CW.drawsP (id := 20) [0,1,2,3,4,5,6,7,8,9,10,11,12] mixed (by kernel_rfl) ?_|refine Gi2 (fun _=>?_) fun _=>?_|refine Gi3 ?_|refine Gi4 fun _=>?_|fail)
    refine OW.call (num30 _ _) ?_
    rintro _ _ ⟨rfl, rfl⟩
    repeat' (first|refine Gi0 fun _=>?_|refine Gi1 ?_|refine CW.drawsP (id := 1) [0,1,2,3,4,5] mixed (by kernel_rfl) ?_|refine CW.drawsP (id := 19) [0,1,2,3,4,5,6,7,8] mixed (by kernel_rfl) ?_|refine CW.drawsP (id := 20) [0,1,2,3,4,5,6,7,8,9,10,11,12] mixed (by kernel_rfl) ?_|refine Gi2 (fun _=>?_) fun _=>?_|refine Gi3 ?_|refine Gi4 fun _=>?_|fail)
    refine OW.call (works30 _) ?_
    rintro _ _ ⟨rfl, rfl⟩
    repeat' (first|refine Gi0 fun _=>?_|refine Gi1 ?_|refine CW.drawsP (id := 1) [0,1,2,3,4,5] mixed (by kernel_rfl) ?_|refine CW.drawsP (id := 19) [0,1,2,3,4,5,6,7,8] mixed (by kernel_rfl) ?_|refine CW.drawsP (id := 20) [0,1,2,3,4,5,6,7,8,9,10,11,12] mixed (by kernel_rfl) ?_|refine Gi2 (fun _=>?_) fun _=>?_|refine Gi3 ?_|refine Gi4 fun _=>?_|fail)
    exact bodyK.retD L (Res.one Tryz.results7) ⟨rfl, rfl⟩
   ·have hlen : ∀ o : List Nat, o.Perm (List.range l.length) → o.length = l.length := fun o h => by simpa using h.length_eq
    cases hs : srch l (l.length + 1) ⟨a0, a1, []⟩ [] with
    | none =>
     rw [hs] at hm
     subst hm
     repeat' (first|refine Gi0 fun _=>?_|refine Gi1 ?_|refine CW.drawsP (id := 1) [0,1,2,3,4,5] mixed (by kernel_rfl) ?_|refine CW.drawsP (id := 19) [0,1,2,3,4,5,6,7,8] mixed (by kernel_rfl) ?_|refine CW.drawsP (id := 20) [0,1,2,3,4,5,6,7,8,9,10,11,12] mixed (by kernel_rfl) ?_|refine Gi2 (fun _=>?_) fun _=>?_|refine Gi3 ?_|refine Gi4 fun _=>?_|fail)
     refine OW.call (num30 _ _) ?_
     rintro _ _ ⟨rfl, rfl⟩
     repeat' (first|refine Gi0 fun _=>?_|refine Gi1 ?_|refine CW.drawsP (id := 1) [0,1,2,3,4,5] mixed (by kernel_rfl) ?_|refine CW.drawsP (id := 19) [0,1,2,3,4,5,6,7,8] mixed (by kernel_rfl) ?_|refine CW.drawsP (id := 20) [0,1,2,3,4,5,6,7,8,9,10,11,12] mixed (by kernel_rfl) ?_|refine Gi2 (fun _=>?_) fun _=>?_|refine Gi3 ?_|refine Gi4 fun _=>?_|fail)
     refine OW.call (rRight a0 a1 _ lv zs l _ (LS.to hl (fun c a h => TdAt.to c a h)) hv.to (by omega) hf) ?_
     rintro _ _ ⟨⟨o, rfl, hp, rfl⟩ | rfl, rfl⟩
     ·cases hr : rightP l ⟨a0, a1, []⟩ [] o with
      | true =>
       obtain ⟨r, hr2, _⟩ := srch_least (l.length + 1) ⟨a0, a1, []⟩ [] o hr (by simpa using hlen o hp) (by have := hlen o hp; omega)
       rw [hs] at hr2
       cases hr2
      | false =>
       repeat' (first|refine Gi0 fun _=>?_|refine Gi1 ?_|refine CW.drawsP (id := 1) [0,1,2,3,4,5] mixed (by kernel_rfl) ?_|refine CW.drawsP (id := 19) [0,1,2,3,4,5,6,7,8] mixed (by kernel_rfl) ?_|refine CW.drawsP (id := 20) [0,1,2,3,4,5,6,7,8,9,10,11,12] mixed (by kernel_rfl) ?_|refine Gi2 (fun _=>?_) fun _=>?_|refine Gi3 ?_|refine Gi4 fun _=>?_|fail)
       refine OW.call (works30 _) ?_
       rintro _ _ ⟨rfl, rfl⟩
       repeat' (first|refine Gi0 fun _=>?_|refine Gi1 ?_|refine CW.drawsP (id := 1) [0,1,2,3,4,5] mixed (by kernel_rfl) ?_|refine CW.drawsP (id := 19) [0,1,2,3,4,5,6,7,8] mixed (by kernel_rfl) ?_|refine CW.drawsP (id := 20) [0,1,2,3,4,5,6,7,8,9,10,11,12] mixed (by kernel_rfl) ?_|refine Gi2 (fun _=>?_) fun _=>?_|refine Gi3 ?_|refine Gi4 fun _=>?_|fail)
       exact bodyK.retD L (Res.one Tryz.results7) ⟨rfl, rfl⟩
     ·repeat' (first|refine Gi0 fun _=>?_|refine Gi1 ?_|refine CW.drawsP (id := 1) [0,1,2,3,4,5] mixed (by kernel_rfl) ?_|refine CW.drawsP (id := 19) [0,1,2,3,4,5,6,7,8] mixed (by kernel_rfl) ?_|refine CW.drawsP (id := 20) [0,1,2,3,4,5,6,7,8,9,10,11,12] mixed (by kernel_rfl) ?_|refine Gi2 (fun _=>?_) fun _=>?_|refine Gi3 ?_|refine Gi4 fun _=>?_|fail)
      refine OW.call (works30 _) ?_
      rintro _ _ ⟨rfl, rfl⟩
      repeat' (first|refine Gi0 fun _=>?_|refine Gi1 ?_|refine CW.drawsP (id := 1) [0,1,2,3,4,5] mixed (by kernel_rfl) ?_|refine CW.drawsP (id := 19) [0,1,2,3,4,5,6,7,8] mixed (by kernel_rfl) ?_|refine CW.drawsP (id := 20) [0,1,2,3,4,5,6,7,8,9,10,11,12] mixed (by kernel_rfl) ?_|refine Gi2 (fun _=>?_) fun _=>?_|refine Gi3 ?_|refine Gi4 fun _=>?_|fail)
      exact bodyK.retD L (Res.one Tryz.results7) ⟨rfl, rfl⟩
    | some r =>
     rw [hs] at hm
     obtain ⟨w, rfl, hrd⟩ := hm
     have sw := hrd.sng
     obtain ⟨t, ht1, ht2, ht3⟩ := srch_right _ _ _ _ hs
     rw [List.nil_append] at ht1
     subst ht1
     have hok2 := right_ok r [] _ (by simp) (fun _ h => (by cases h)) ht2
     rw [List.nil_append] at hok2
     have hpr := perm_range hok2.1 hok2.2 ht3
     obtain ⟨ar, cr, rfl, _⟩ := hrd.isSlice
     repeat' (first|refine Gi0 fun _=>?_|refine Gi1 ?_|refine CW.drawsP (id := 1) [0,1,2,3,4,5] mixed (by kernel_rfl) ?_|refine CW.drawsP (id := 19) [0,1,2,3,4,5,6,7,8] mixed (by kernel_rfl) ?_|refine CW.drawsP (id := 20) [0,1,2,3,4,5,6,7,8,9,10,11,12] mixed (by kernel_rfl) ?_|refine Gi2 (fun _=>?_) fun _=>?_|refine Gi3 ?_|refine Gi4 fun _=>?_|fail)
     refine OW.call (num30 _ _) ?_
     rintro _ _ ⟨rfl, rfl⟩
     repeat' (first|refine Gi0 fun _=>?_|refine Gi1 ?_|refine CW.drawsP (id := 1) [0,1,2,3,4,5] mixed (by kernel_rfl) ?_|refine CW.drawsP (id := 19) [0,1,2,3,4,5,6,7,8] mixed (by kernel_rfl) ?_|refine CW.drawsP (id := 20) [0,1,2,3,4,5,6,7,8,9,10,11,12] mixed (by kernel_rfl) ?_|refine Gi2 (fun _=>?_) fun _=>?_|refine Gi3 ?_|refine Gi4 fun _=>?_|fail)
     refine OW.call (oRight a0 a1 _ lv r l _ (LS.to hl (fun c a h => TdAt.to c a h)) hrd.to hf hpr) ?_
     rintro _ _ ⟨rfl, rfl⟩
     rw [ht2]
     repeat' (first|refine Gi0 fun _=>?_|refine Gi1 ?_|refine CW.drawsP (id := 1) [0,1,2,3,4,5] mixed (by kernel_rfl) ?_|refine CW.drawsP (id := 19) [0,1,2,3,4,5,6,7,8] mixed (by kernel_rfl) ?_|refine CW.drawsP (id := 20) [0,1,2,3,4,5,6,7,8,9,10,11,12] mixed (by kernel_rfl) ?_|refine Gi2 (fun _=>?_) fun _=>?_|refine Gi3 ?_|refine Gi4 fun _=>?_|fail)
     refine OW.call (num30 _ _) ?_
     rintro _ _ ⟨rfl, rfl⟩
     repeat' (first|refine Gi0 fun _=>?_|refine Gi1 ?_|refine CW.drawsP (id := 1) [0,1,2,3,4,5] mixed (by kernel_rfl) ?_|refine CW.drawsP (id := 19) [0,1,2,3,4,5,6,7,8] mixed (by kernel_rfl) ?_|refine CW.drawsP (id := 20) [0,1,2,3,4,5,6,7,8,9,10,11,12] mixed (by kernel_rfl) ?_|refine Gi2 (fun _=>?_) fun _=>?_|refine Gi3 ?_|refine Gi4 fun _=>?_|fail)
     refine OW.call (rRight a0 a1 _ lv zs l _ (LS.to hl (fun c a h => TdAt.to c a h)) hv.to (by omega) hf) ?_
     rintro _ _ ⟨⟨o, rfl, hp, rfl⟩ | rfl, rfl⟩
     ·cases hr : rightP l ⟨a0, a1, []⟩ [] o with
      | true =>
       obtain ⟨r', hr2, hle⟩ := srch_least (l.length + 1) ⟨a0, a1, []⟩ [] o hr (by simpa using hlen o hp) (by have := hlen o hp; omega)
       rw [hs] at hr2
       have hrr : r' = r := (Option.some.inj hr2).symm
       rw [hrr] at hle
       have hlo : o.length = r.length := by rw [hlen o hp, ht3]
       rw [List.length_map, List.map_map] at hv
       have hlz : ((o.map fun (k : Nat) => (k : Int)).length : Int) = r.length := by rw [List.length_map, hlo]
       have hlz2 : (o.map fun (k : Nat) => (k : Int)).length = r.length := by rw [List.length_map, hlo]
       rw [hlz2]
       repeat' (first|refine Gi0 fun _=>?_|refine Gi1 ?_|refine CW.drawsP (id := 1) [0,1,2,3,4,5] mixed (by kernel_rfl) ?_|refine CW.drawsP (id := 19) [0,1,2,3,4,5,6,7,8] mixed (by kernel_rfl) ?_|refine CW.drawsP (id := 20) [0,1,2,3,4,5,6,7,8,9,10,11,12] mixed (by kernel_rfl) ?_|refine Gi2 (fun _=>?_) fun _=>?_|refine Gi3 ?_|refine Gi4 fun _=>?_|fail)
       have hv' : Rd L 1 (.slice aw r.length cw) r.length (inN o) := by
        have h : Rd L 1 (.slice aw o.length cw) o.length (inN o) := hv
        rw [hlo] at h
        exact h
       refine CW.count r.length (fun i ρ ds L' => ds = [] ∧ L' = N ++ (b3, .cells #[.int .i64 a0, .int .i64 a1] 43 (0, 0)) :: L ∧ (∀ j, j < i → r[j]? = o[j]?) ∧ Ev ρ 2 (.slice aw r.length cw) ∧ Ev ρ 9 (.slice ar r.length cr) ∧ Ev ρ 16 (.int .i64 (i : Int))) ⟨rfl, rfl, fun j hj => by omega, inferInstance, inferInstance, inferInstance⟩ ?_
       rintro i ρ ds L' hi ⟨rfl, rfl, hI, e2, e9, e16⟩
       by_cases hlt : i < r.length
       ·obtain ⟨bk, kk, capk, lk, ek, frk, hbe, hbin, hbc, hbn⟩ := hrd.open1 (by omega)
        cases hbe
        obtain ⟨bj, kj, capj, lj, ej, frj, hbe, hbinj, hbcj, hbnj⟩ := hv'.open1 (by omega)
        cases hbe
        have hlo2 : i < o.length := by omega
        have n1 := hbn i (.int .i64 (r[i] : Int)) hlt (by simp [List.getElem?_eq_getElem hlt])
        have n2 := hbnj i (.int .i64 (o[i] : Int)) hlt (by simp [List.getElem?_eq_getElem hlo2])
        have hlti : (i : Int) < r.length := by omega
        have hcase : r[i] = o[i] ∨ r[i] < o[i] := by
         rcases leL_at (by omega) hle with he | ⟨k, h1, h2, h3, h4⟩
         ·left; simp only [he]
         ·rcases Nat.lt_trichotomy i k with hik | rfl | hik
          ·left
           have := h3 i hik
           rw [List.getElem?_eq_getElem hlt, List.getElem?_eq_getElem hlo2] at this
           exact Option.some.inj this
          ·exact .inr h4
          ·exfalso
           have := hI k hik
           rw [List.getElem?_eq_getElem h1, List.getElem?_eq_getElem h2] at this
           have := Option.some.inj this
           omega
        have hnx : r[i] = o[i] → ∀ j, j < i + 1 → r[j]? = o[j]? := fun h j hj => by
         by_cases e : j = i
         ·subst e
          rw [List.getElem?_eq_getElem hlt, List.getElem?_eq_getElem hlo2, h]
         ·exact hI j (by omega)
        clear hbn hbnj
        generalize r[i] = x at *
        generalize o[i] = y at *
        rcases hcase with hxy | hxy
        ·have hxyi : (x : Int) = y := by omega
         have hnx2 := hnx hxy
         repeat' (first|refine Gi0 fun _=>?_|refine Gi1 ?_|refine CW.drawsP (id := 1) [0,1,2,3,4,5] mixed (by kernel_rfl) ?_|refine CW.drawsP (id := 19) [0,1,2,3,4,5,6,7,8] mixed (by kernel_rfl) ?_|refine CW.drawsP (id := 20) [0,1,2,3,4,5,6,7,8,9,10,11,12] mixed (by kernel_rfl) ?_|refine Gi2 (fun _=>?_) fun _=>?_|refine Gi3 ?_|refine Gi4 fun _=>?_|fail)
         exact ⟨hlt, rfl, rfl, hnx2, inferInstance, inferInstance, by rw [Int.natCast_add]; infer_instance⟩
        ·have hxyi : (x : Int) < y := by omega
         repeat' (first|refine Gi0 fun _=>?_|refine Gi1 ?_|refine CW.drawsP (id := 1) [0,1,2,3,4,5] mixed (by kernel_rfl) ?_|refine CW.drawsP (id := 19) [0,1,2,3,4,5,6,7,8] mixed (by kernel_rfl) ?_|refine CW.drawsP (id := 20) [0,1,2,3,4,5,6,7,8,9,10,11,12] mixed (by kernel_rfl) ?_|refine Gi2 (fun _=>?_) fun _=>?_|refine Gi3 ?_|refine Gi4 fun _=>?_|fail)
         refine RW.call (works30 _) ?_
         rintro _ _ ⟨rfl, rfl⟩
         refine pinAll ?_
         repeat' (first|refine Gi0 fun _=>?_|refine Gi1 ?_|refine CW.drawsP (id := 1) [0,1,2,3,4,5] mixed (by kernel_rfl) ?_|refine CW.drawsP (id := 19) [0,1,2,3,4,5,6,7,8] mixed (by kernel_rfl) ?_|refine CW.drawsP (id := 20) [0,1,2,3,4,5,6,7,8,9,10,11,12] mixed (by kernel_rfl) ?_|refine Gi2 (fun _=>?_) fun _=>?_|refine Gi3 ?_|refine Gi4 fun _=>?_|fail)
         exact bodyK.retD L (Res.one Tryz.results7) ⟨rfl, rfl⟩
       ·obtain rfl : i = r.length := by omega
        repeat' (first|refine Gi0 fun _=>?_|refine Gi1 ?_|refine CW.drawsP (id := 1) [0,1,2,3,4,5] mixed (by kernel_rfl) ?_|refine CW.drawsP (id := 19) [0,1,2,3,4,5,6,7,8] mixed (by kernel_rfl) ?_|refine CW.drawsP (id := 20) [0,1,2,3,4,5,6,7,8,9,10,11,12] mixed (by kernel_rfl) ?_|refine Gi2 (fun _=>?_) fun _=>?_|refine Gi3 ?_|refine Gi4 fun _=>?_|fail)
        refine OW.call (works30 _) ?_
        rintro _ _ ⟨rfl, rfl⟩
        repeat' (first|refine Gi0 fun _=>?_|refine Gi1 ?_|refine CW.drawsP (id := 1) [0,1,2,3,4,5] mixed (by kernel_rfl) ?_|refine CW.drawsP (id := 19) [0,1,2,3,4,5,6,7,8] mixed (by kernel_rfl) ?_|refine CW.drawsP (id := 20) [0,1,2,3,4,5,6,7,8,9,10,11,12] mixed (by kernel_rfl) ?_|refine Gi2 (fun _=>?_) fun _=>?_|refine Gi3 ?_|refine Gi4 fun _=>?_|fail)
        exact bodyK.retD L (Res.one Tryz.results7) ⟨rfl, rfl⟩
      | false =>
       repeat' (first|refine Gi0 fun _=>?_|refine Gi1 ?_|refine CW.drawsP (id := 1) [0,1,2,3,4,5] mixed (by kernel_rfl) ?_|refine CW.drawsP (id := 19) [0,1,2,3,4,5,6,7,8] mixed (by kernel_rfl) ?_|refine CW.drawsP (id := 20) [0,1,2,3,4,5,6,7,8,9,10,11,12] mixed (by kernel_rfl) ?_|refine Gi2 (fun _=>?_) fun _=>?_|refine Gi3 ?_|refine Gi4 fun _=>?_|fail)
       refine OW.call (works30 _) ?_
       rintro _ _ ⟨rfl, rfl⟩
       repeat' (first|refine Gi0 fun _=>?_|refine Gi1 ?_|refine CW.drawsP (id := 1) [0,1,2,3,4,5] mixed (by kernel_rfl) ?_|refine CW.drawsP (id := 19) [0,1,2,3,4,5,6,7,8] mixed (by kernel_rfl) ?_|refine CW.drawsP (id := 20) [0,1,2,3,4,5,6,7,8,9,10,11,12] mixed (by kernel_rfl) ?_|refine Gi2 (fun _=>?_) fun _=>?_|refine Gi3 ?_|refine Gi4 fun _=>?_|fail)
       exact bodyK.retD L (Res.one Tryz.results7) ⟨rfl, rfl⟩
     ·repeat' (first|refine Gi0 fun _=>?_|refine Gi1 ?_|refine CW.drawsP (id := 1) [0,1,2,3,4,5] mixed (by kernel_rfl) ?_|refine CW.drawsP (id := 19) [0,1,2,3,4,5,6,7,8] mixed (by kernel_rfl) ?_|refine CW.drawsP (id := 20) [0,1,2,3,4,5,6,7,8,9,10,11,12] mixed (by kernel_rfl) ?_|refine Gi2 (fun _=>?_) fun _=>?_|refine Gi3 ?_|refine Gi4 fun _=>?_|fail)
      refine OW.call (works30 _) ?_
      rintro _ _ ⟨rfl, rfl⟩
      repeat' (first|refine Gi0 fun _=>?_|refine Gi1 ?_|refine CW.drawsP (id := 1) [0,1,2,3,4,5] mixed (by kernel_rfl) ?_|refine CW.drawsP (id := 19) [0,1,2,3,4,5,6,7,8] mixed (by kernel_rfl) ?_|refine CW.drawsP (id := 20) [0,1,2,3,4,5,6,7,8,9,10,11,12] mixed (by kernel_rfl) ?_|refine Gi2 (fun _=>?_) fun _=>?_|refine Gi3 ?_|refine Gi4 fun _=>?_|fail)
      exact bodyK.retD L (Res.one Tryz.results7) ⟨rfl, rfl⟩
 ·repeat' (first|refine Gi0 fun _=>?_|refine Gi1 ?_|refine CW.drawsP (id := 1) [0,1,2,3,4,5] mixed (by kernel_rfl) ?_|refine CW.drawsP (id := 19) [0,1,2,3,4,5,6,7,8] mixed (by kernel_rfl) ?_|refine CW.drawsP (id := 20) [0,1,2,3,4,5,6,7,8,9,10,11,12] mixed (by kernel_rfl) ?_|refine Gi2 (fun _=>?_) fun _=>?_|refine Gi3 ?_|refine Gi4 fun _=>?_|fail)
  refine OW.call (works30 _) ?_
  rintro _ _ ⟨rfl, rfl⟩
  repeat' (first|refine Gi0 fun _=>?_|refine Gi1 ?_|refine CW.drawsP (id := 1) [0,1,2,3,4,5] mixed (by kernel_rfl) ?_|refine CW.drawsP (id := 19) [0,1,2,3,4,5,6,7,8] mixed (by kernel_rfl) ?_|refine CW.drawsP (id := 20) [0,1,2,3,4,5,6,7,8,9,10,11,12] mixed (by kernel_rfl) ?_|refine Gi2 (fun _=>?_) fun _=>?_|refine Gi3 ?_|refine Gi4 fun _=>?_|fail)
  exact bodyK.retD L (Res.one Tryz.results7) ⟨rfl, rfl⟩
end Go.Proofs.YtmnhooepaemlcaaGreat
