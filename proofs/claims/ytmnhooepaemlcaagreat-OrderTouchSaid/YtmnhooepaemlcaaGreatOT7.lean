/-
  For every input the law OrderTouch returns true, and each argument reads behind the call as it read before. This text holds lemmas for it (part 7).
  Conditions: none.
-/
import Derived.Test.YtmnhooepaemlcaaGreatOT2
import Derived.Test.YtmnhooepaemlcaaGreatOT3
import Derived.Sort.LotD4
import Derived.Sort.LotD5
set_option linter.all false
namespace Go.Proofs.YtmnhooepaemlcaaGreat
open Go Go.Pw
set_option maxRecDepth 100000
set_option maxHeartbeats 4000000
set_option synthInstance.maxHeartbeats 400000
set_option synthInstance.maxSize 2000
attribute [local irreducible] CW OW RW thenK blockK
attribute [local irreducible] scopeK loopK TRW ATW
theorem valI (bx : Nat) (v : Value) (zs : List Int) (D : Chunk) [h1 : InC D bx (.cells #[v] 35 (0, 0))] (hv : Rd D 1 v zs.length (zs.map (Value.int .i64))) (hl : zs.length ≤ 4611686018427387903) :
  SeqV Tryz.prog (.func (.func 136) #[] #[.pointer (some ⟨bx, 0, none⟩)]) D (zs.map fun z => [.int .i64 z]) := fun yv J E L sy h0 hE hJ => by
 obtain ⟨av, cv, rfl, _⟩ := hv.isSlice
 refine FnP.vp (first := #[]) (cap := #[.pointer (some ⟨bx, 0, none⟩)]) (?_ : Fn1 _ _ _ _ _)
 obtain ⟨hD0, _, _⟩ := hJ 0 L h0
 have i0 : InC L bx _ := ⟨hD0.out _ h1.out⟩
 intro w0; refine Spec.enter2 Tryz.func136 rfl Tryz.ntmps136 (by decide) ?_
 repeat' (first|refine Ga0 fun _=>?_|refine Ga1 ?_|refine Ga2 (fun _=>?_) fun _=>?_|refine Ga3 ?_|refine Ga4 fun _=>?_|fail)
 refine CW.count zs.length (fun k ρ ds L' => ds = [] ∧ J k L' ∧ Ev ρ 0 yv ∧ Ev ρ 5 (.slice av zs.length cv) ∧ Ev ρ 6 (.int .i64 (zs.length : Int)) ∧ Ev ρ 7 (.int .i64 (k : Int)))
  ⟨rfl, h0, inferInstance, inferInstance, inferInstance, inferInstance⟩ ?_
 clear h0 hD0 i0
 rintro k ρ ds L' hk ⟨rfl, hj, e0, e5, e6, e7⟩
 obtain ⟨hD, hend, hy⟩ := hJ k L' hj
 by_cases hlt : k < zs.length
 ·obtain ⟨bk, kk, capk, lk, ek, frk, hbe, hbin, hbc, hbn⟩ := hv.open1 (by omega)
  cases hbe
  have hbin' : InC L' bk (.cells lk.toArray ek frk) := ⟨hD.out _ hbin.out⟩
  have hnth := hbn k (.int .i64 zs[k]) hlt (by simp [List.getElem?_eq_getElem hlt])
  have hvp := hy (by simpa using hlt) []
  rw [List.getElem_map] at hvp
  rw [List.nil_append] at hvp
  have hlti : (k : Int) < zs.length := by omega
  clear hbn
  generalize zs[k] = x at *
  repeat' (first|refine Ga0 fun _=>?_|refine Ga1 ?_|refine Ga2 (fun _=>?_) fun _=>?_|refine Ga3 ?_|refine Ga4 fun _=>?_|fail)
  refine OW.callV1 hvp ?_
  rintro _ L3 ⟨_, rfl, ⟨rfl, hj'⟩ | ⟨rfl, hE'⟩⟩
  ·repeat' (first|refine Ga0 fun _=>?_|refine Ga1 ?_|refine Ga2 (fun _=>?_) fun _=>?_|refine Ga3 ?_|refine Ga4 fun _=>?_|fail)
   exact ⟨hlt, rfl, by simpa using hj', inferInstance, inferInstance, inferInstance, by rw [Int.natCast_add]; infer_instance⟩
  ·repeat' (first|refine Ga0 fun _=>?_|refine Ga1 ?_|refine Ga2 (fun _=>?_) fun _=>?_|refine Ga3 ?_|refine Ga4 fun _=>?_|fail)
   exact bodyK.ret (Res.zero Tryz.results136) hE'
 ·obtain rfl : k = zs.length := by omega
  have hE' := hend (by simp)
  repeat' (first|refine Ga0 fun _=>?_|refine Ga1 ?_|refine Ga2 (fun _=>?_) fun _=>?_|refine Ga3 ?_|refine Ga4 fun _=>?_|fail)
  exact bodyK.nrm (Res.zero Tryz.results136) hE'
theorem appSeqI (f : FuncId) (cap : List Value) [he : Entr Tryz.prog f] (zs : List Int) (L : Chunk) (hs : SeqV Tryz.prog (.func (.func f) #[] cap.toArray) L (zs.map fun z => [.int .i64 z])) (hl : zs.length ≤ 1073741824) :
  Fn1 Tryz.prog 173 [.slice none 0 0, .func (.func f) #[] cap.toArray] L
   (fun u L' => ∃ N, L' = N ++ L ∧ Row 3 1 N u zs.length (zs.map (Value.int .i64))) := by
 intro w0; refine Spec.enterM2 Tryz.func173 rfl Tryz.ntmps173 (by decide) ?_
 repeat' (first|refine Ga0 fun _=>?_|refine Ga1 ?_|refine Ga2 (fun _=>?_) fun _=>?_|refine Ga3 ?_|refine Ga4 fun _=>?_|fail)
 rename_i b2
 refine CW.rangeV (fun lp DD rec hrec => ?_)
 refine hs.vp (fun i Lx => ∃ (N : Chunk) (v : Value), i ≤ zs.length ∧ Lx = (lp, rec .ready none) :: (DD, .deferred (some [])) :: (N ++ ((b2, .cells #[v] 35 (0, 0)) :: L)) ∧ Row 3 1 N v i ((zs.take i).map (Value.int .i64)))
  (fun Lx => ∃ (N : Chunk) (v : Value), Lx = (lp, rec .ready none) :: (DD, .deferred (some [])) :: (N ++ ((b2, .cells #[v] 35 (0, 0)) :: L)) ∧ Row 3 1 N v zs.length (zs.map (Value.int .i64)))
  ⟨[], _, Nat.zero_le _, rfl, Row.nil _ _⟩ ?_ ?_ ?_
 ·rintro _ ⟨N, v, rfl, _⟩
  infer_instance
 ·rintro i _ ⟨N, v, hi, rfl, hrow⟩
  have sv := hrow.sng
  refine ⟨inferInstance, fun h => ?_, fun h M => ?_⟩
  ·rw [List.length_map] at h
   subst h
   exact ⟨N, v, rfl, by simpa using hrow⟩
  ·rw [List.length_map] at h
   rw [List.getElem_map]
   have hts : (zs.take (i + 1)).map (Value.int .i64) = (zs.take i).map (Value.int .i64) ++ [.int .i64 zs[i]] := by rw [List.take_add_one, List.getElem?_eq_getElem h, List.map_append]; rfl
   generalize zs[i] = z at *
   refine VP.front (VP.yield1 hrec (by decide) (fun w0 => ?_))
   repeat' (first|refine Ga0 fun _=>?_|refine Ga1 ?_|refine Ga2 (fun _=>?_) fun _=>?_|refine Ga3 ?_|refine Ga4 fun _=>?_|fail)
   refine beginR ?_
   repeat' (first|refine Ga0 fun _=>?_|refine Ga1 ?_|refine Ga2 (fun _=>?_) fun _=>?_|refine Ga3 ?_|refine Ga4 fun _=>?_|fail)
   rename_i b10
   have hrn : Rd ((b10, Obj.cells #[Value.int .i64 z] 3 (0, 0)) :: (M ++ (lp, rec LoopState.busy none) :: (DD, Obj.deferred (some [])) :: (N ++ (b2, Obj.cells #[v] 35 (0, 0)) :: L))) 1 (.slice (some ⟨b10, 0, none⟩) 1 1) 1 [.int .i64 z] := Rd.blk (l := [_]) rfl (Nat.le_refl _)
   refine OW.append hrow inferInstance hrn (fun v hv => by rw [List.mem_singleton.1 hv]; infer_instance) (by omega) (fun v' N' hrow' => ?_)
   have sv' := hrow'.sng
   repeat' (first|refine Ga0 fun _=>?_|refine Ga1 ?_|refine Ga2 (fun _=>?_) fun _=>?_|refine Ga3 ?_|refine Ga4 fun _=>?_|fail)
   refine roundK.nrm ?_
   exact ⟨[_], _, rfl, _, rfl, .inl ⟨rfl, N', v', h, rfl, by rw [hts]; exact hrow'⟩⟩
 ·rintro _ u ⟨N, v, rfl, hrow⟩
  have sv := hrow.sng
  refine rangeK.nrm ?_
  repeat' (first|refine Ga0 fun _=>?_|refine Ga1 ?_|refine Ga2 (fun _=>?_) fun _=>?_|refine Ga3 ?_|refine Ga4 fun _=>?_|fail)
  exact bodyM.retM (N ++ L) (Res.of1 Tryz.results173) ⟨N, rfl, hrow⟩
theorem collectI (f : FuncId) (cap : List Value) [he : Entr Tryz.prog f] (zs : List Int) (L : Chunk) (hs : SeqV Tryz.prog (.func (.func f) #[] cap.toArray) L (zs.map fun z => [.int .i64 z])) (hl : zs.length ≤ 1073741824) :
  Fn1 Tryz.prog 134 [.func (.func f) #[] cap.toArray] L
   (fun u L' => ∃ N, L' = N ++ L ∧ Row 3 1 N u zs.length (zs.map (Value.int .i64))) := by
 intro w0; refine Spec.enter1 Tryz.func134 rfl Tryz.ntmps134 (by decide) ?_
 repeat' (first|refine Ga0 fun _=>?_|refine Ga1 ?_|refine Ga2 (fun _=>?_) fun _=>?_|refine Ga3 ?_|refine Ga4 fun _=>?_|fail)
 refine OW.call (appSeqI f cap zs _ hs.to hl) ?_
 rintro u _ ⟨N, rfl, hrow⟩
 have sv := hrow.sng
 repeat' (first|refine Ga0 fun _=>?_|refine Ga1 ?_|refine Ga2 (fun _=>?_) fun _=>?_|refine Ga3 ?_|refine Ga4 fun _=>?_|fail)
 exact bodyK.ret (Res.one Tryz.results134) ⟨N, rfl, hrow⟩
end Go.Proofs.YtmnhooepaemlcaaGreat

namespace Go.Proofs.YtmnhooepaemlcaaGreat
open Go Go.Pw Go.Sort
set_option maxRecDepth 100000
set_option maxHeartbeats 4000000
set_option synthInstance.maxHeartbeats 400000
set_option synthInstance.maxSize 2000
attribute [local irreducible] CW OW RW thenK blockK
attribute [local irreducible] scopeK loopK TRW ATW
theorem insOuter_step {a b i : Nat} {d : Array Int} (h : i < b) : insOuter ltInt a b i d = insOuter ltInt a b (i + 1) (insInner ltInt a i d) := by
 rw [insOuter]; rw [if_pos h]
end Go.Proofs.YtmnhooepaemlcaaGreat

namespace Go.Proofs.YtmnhooepaemlcaaGreat
open Go Go.Pw Go.Sort
set_option maxRecDepth 100000
set_option maxHeartbeats 4000000
set_option synthInstance.maxHeartbeats 400000
set_option synthInstance.maxSize 2000
attribute [local irreducible] CW OW RW thenK blockK
attribute [local irreducible] scopeK loopK TRW ATW
theorem isNaNI (x : Int) (L : Chunk) : Fn1 Tryz.prog 235 [.int .i64 x] L (fun u L' => u = .bool false ∧ L = L') := by
 intro w0; refine Spec.enter1 Tryz.func235 rfl Tryz.ntmps235 (by decide) ?_
 repeat' (first|refine Ga0 fun _=>?_|refine Ga1 ?_|refine Ga2 (fun _=>?_) fun _=>?_|refine Ga3 ?_|refine Ga4 fun _=>?_|fail)
 exact bodyK.retD L (Res.one Tryz.results235) ⟨rfl, rfl⟩
theorem lessI (x y : Int) (L : Chunk) : Fn1 Tryz.prog 209 [.int .i64 x, .int .i64 y] L (fun u L' => u = .bool (ltInt x y) ∧ L = L') := by
 intro w0; refine Spec.enter2 Tryz.func209 rfl Tryz.ntmps209 (by decide) ?_
 repeat' (first|refine Ga0 fun _=>?_|refine Ga1 ?_|refine Ga2 (fun _=>?_) fun _=>?_|refine Ga3 ?_|refine Ga4 fun _=>?_|fail)
 refine OW.call (isNaNI x _) ?_
 rintro _ _ ⟨rfl, rfl⟩
 unfold ltInt
 by_cases h : x < y
 ·rw [decide_eq_true h]
  repeat' (first|refine Ga0 fun _=>?_|refine Ga1 ?_|refine Ga2 (fun _=>?_) fun _=>?_|refine Ga3 ?_|refine Ga4 fun _=>?_|fail)
  exact bodyK.retD L (Res.one Tryz.results209) ⟨rfl, rfl⟩
 ·rw [decide_eq_false h]
  repeat' (first|refine Ga0 fun _=>?_|refine Ga1 ?_|refine Ga2 (fun _=>?_) fun _=>?_|refine Ga3 ?_|refine Ga4 fun _=>?_|fail)
  exact bodyK.retD L (Res.one Tryz.results209) ⟨rfl, rfl⟩
theorem insertionSortI (b cap m lo hi : Nat) (d : Array Int) (rest : List Value) (L : Chunk) (hd : Srt m d) (hlh : lo ≤ hi) (hhm : hi ≤ m) :
  Fn1 Tryz.prog 203 [.slice (some ⟨b, 0, none⟩) m cap, .int .i64 lo, .int .i64 hi] ((b, .cells (kvs .i64 d ++ rest).toArray 3 (0, 0)) :: L)
   (fun _ L' => L' = (b, .cells (kvs .i64 (insertionSort ltInt d lo hi) ++ rest).toArray 3 (0, 0)) :: L) := by
 intro w0; refine Spec.enter3 Tryz.func203 rfl Tryz.ntmps203 (by decide) ?_
 have hml := hd.len
 repeat' (first|refine Gi0 fun _=>?_|refine Gi1 ?_|refine CW.drawsP (id := 4) [0,1,2,3,4,5,6,7,8,9,10,11,12,13,14] mixed (by kernel_rfl) ?_|refine CW.drawsSw (id := 6) [0, 1, 2, 3, 4, 5, 6, 7, 8, 10, 11, 12] [9, 13] 14 [15, 16, 17] mixed (by kernel_rfl) ?_|refine Gi2 (fun _=>?_) fun _=>?_|refine Gi3 ?_|refine Gi4 fun _=>?_|fail)
 refine CW.loop (fun k ρ ds L' => ds = [] ∧ (∃ i d', L' = (b, .cells (kvs .i64 d' ++ rest).toArray 3 (0, 0)) :: L ∧ Srt m d' ∧ lo < i ∧ k = hi - i ∧ insOuter ltInt lo hi i d' = insertionSort ltInt d lo hi ∧ Ev ρ 6 (.int .i64 (i : Int))) ∧ Ev ρ 0 (.slice (some ⟨b, 0, none⟩) m cap) ∧ Ev ρ 1 (.int .i64 lo) ∧ Ev ρ 2 (.int .i64 hi)) (hi - (lo + 1))
  ⟨rfl, ⟨lo + 1, d, rfl, hd, by omega, rfl, rfl, by rw [Int.natCast_add]; infer_instance⟩, inferInstance, inferInstance, inferInstance⟩ ?_
 rintro k ρ ds L' ⟨rfl, ⟨i, d', rfl, hd', hi1, rfl, hfin, e6⟩, e0, e1, e2⟩
 by_cases hlt : i < hi
 ·repeat' (first|refine Gi0 fun _=>?_|refine Gi1 ?_|refine CW.drawsP (id := 4) [0,1,2,3,4,5,6,7,8,9,10,11,12,13,14] mixed (by kernel_rfl) ?_|refine CW.drawsSw (id := 6) [0, 1, 2, 3, 4, 5, 6, 7, 8, 10, 11, 12] [9, 13] 14 [15, 16, 17] mixed (by kernel_rfl) ?_|refine Gi2 (fun _=>?_) fun _=>?_|refine Gi3 ?_|refine Gi4 fun _=>?_|fail)
  refine CW.loop (fun k ρ ds L' => ds = [] ∧ (∃ j d'', L' = (b, .cells (kvs .i64 d'' ++ rest).toArray 3 (0, 0)) :: L ∧ Srt m d'' ∧ j ≤ i ∧ j = k ∧ insInner ltInt lo j d'' = insInner ltInt lo i d' ∧ Ev ρ 7 (.int .i64 (j : Int))) ∧ Ev ρ 0 (.slice (some ⟨b, 0, none⟩) m cap) ∧ Ev ρ 1 (.int .i64 lo) ∧ Ev ρ 2 (.int .i64 hi) ∧ Ev ρ 6 (.int .i64 (i : Int))) i
   ⟨rfl, ⟨i, d', rfl, hd', by omega, rfl, rfl, inferInstance⟩, inferInstance, inferInstance, inferInstance, inferInstance⟩ ?_
  rintro k ρ ds L' ⟨rfl, ⟨j, d'', rfl, hd'', hj, rfl, hfj, e7⟩, e0, e1, e2, e6⟩
  by_cases hja : lo < j
  ·obtain ⟨j, rfl⟩ : ∃ j', j = j' + 1 := ⟨j - 1, by omega⟩
   have l1 : LtS (j + 1) d''.size := ⟨by rw [hd''.size]; omega⟩
   have l2 : LtS j d''.size := ⟨by rw [hd''.size]; omega⟩
   have t1 : ToN (((j + 1 : Nat) : Int) - 1) j := ⟨by omega⟩
   repeat' (first|refine Gi0 fun _=>?_|refine Gi1 ?_|refine CW.drawsP (id := 4) [0,1,2,3,4,5,6,7,8,9,10,11,12,13,14] mixed (by kernel_rfl) ?_|refine CW.drawsSw (id := 6) [0, 1, 2, 3, 4, 5, 6, 7, 8, 10, 11, 12] [9, 13] 14 [15, 16, 17] mixed (by kernel_rfl) ?_|refine Gi2 (fun _=>?_) fun _=>?_|refine Gi3 ?_|refine Gi4 fun _=>?_|fail)
   refine RW.call (lessI _ _ _) ?_
   rintro _ _ ⟨rfl, rfl⟩
   refine pinAll ?_
   have hst := hfj
   rw [show insInner ltInt lo (j + 1) d'' = if j + 1 > lo && ltInt d''[j + 1]! d''[j]! then insInner ltInt lo j (swp d'' (j + 1) j) else d'' from rfl] at hst
   cases hc : ltInt d''[j + 1]! d''[j]! with
   | true =>
    rw [hc] at hst
    simp only [decide_eq_true hja, Bool.and_self, if_true, gt_iff_lt] at hst
    repeat' (first|refine Gi0 fun _=>?_|refine Gi1 ?_|refine CW.drawsP (id := 4) [0,1,2,3,4,5,6,7,8,9,10,11,12,13,14] mixed (by kernel_rfl) ?_|refine CW.drawsSw (id := 6) [0, 1, 2, 3, 4, 5, 6, 7, 8, 10, 11, 12] [9, 13] 14 [15, 16, 17] mixed (by kernel_rfl) ?_|refine Gi2 (fun _=>?_) fun _=>?_|refine Gi3 ?_|refine Gi4 fun _=>?_|fail)
    rw [show ((j + 1 : Nat) : Int) - 1 = (j : Int) by omega]
    exact ⟨j, by omega, rfl, ⟨j, swp d'' (j + 1) j, rfl, hd''.swp _ _, by omega, rfl, hst, inferInstance⟩, inferInstance, inferInstance, inferInstance, inferInstance⟩
   | false =>
    rw [hc] at hst
    simp only [Bool.and_false, Bool.false_eq_true, if_false] at hst
    subst hst
    repeat' (first|refine Gi0 fun _=>?_|refine Gi1 ?_|refine CW.drawsP (id := 4) [0,1,2,3,4,5,6,7,8,9,10,11,12,13,14] mixed (by kernel_rfl) ?_|refine CW.drawsSw (id := 6) [0, 1, 2, 3, 4, 5, 6, 7, 8, 10, 11, 12] [9, 13] 14 [15, 16, 17] mixed (by kernel_rfl) ?_|refine Gi2 (fun _=>?_) fun _=>?_|refine Gi3 ?_|refine Gi4 fun _=>?_|fail)
    exact ⟨hi - (i + 1), by omega, rfl, ⟨i + 1, _, rfl, hd'', by omega, rfl, by rw [← hfin]; rw [insOuter_step hlt], by rw [Int.natCast_add]; infer_instance⟩, inferInstance, inferInstance, inferInstance⟩
  ·have hst : d'' = insInner ltInt lo i d' := by
    rw [← hfj]
    cases j with
    | zero => rfl
    | succ j => rw [show insInner ltInt lo (j + 1) d'' = if j + 1 > lo && ltInt d''[j + 1]! d''[j]! then insInner ltInt lo j (swp d'' (j + 1) j) else d'' from rfl, decide_eq_false (by omega)]; rfl
   subst hst
   repeat' (first|refine Gi0 fun _=>?_|refine Gi1 ?_|refine CW.drawsP (id := 4) [0,1,2,3,4,5,6,7,8,9,10,11,12,13,14] mixed (by kernel_rfl) ?_|refine CW.drawsSw (id := 6) [0, 1, 2, 3, 4, 5, 6, 7, 8, 10, 11, 12] [9, 13] 14 [15, 16, 17] mixed (by kernel_rfl) ?_|refine Gi2 (fun _=>?_) fun _=>?_|refine Gi3 ?_|refine Gi4 fun _=>?_|fail)
   exact ⟨hi - (i + 1), by omega, rfl, ⟨i + 1, _, rfl, hd'', by omega, rfl, by rw [← hfin]; rw [insOuter_step hlt], by rw [Int.natCast_add]; infer_instance⟩, inferInstance, inferInstance, inferInstance⟩
 ·have hst : d' = insertionSort ltInt d lo hi := by
   rw [← hfin]; unfold insOuter; rw [if_neg hlt]
  repeat' (first|refine Gi0 fun _=>?_|refine Gi1 ?_|refine CW.drawsP (id := 4) [0,1,2,3,4,5,6,7,8,9,10,11,12,13,14] mixed (by kernel_rfl) ?_|refine CW.drawsSw (id := 6) [0, 1, 2, 3, 4, 5, 6, 7, 8, 10, 11, 12] [9, 13] 14 [15, 16, 17] mixed (by kernel_rfl) ?_|refine Gi2 (fun _=>?_) fun _=>?_|refine Gi3 ?_|refine Gi4 fun _=>?_|fail)
  exact bodyK.nrm (Res.zero Tryz.results203) (by rw [hst])
end Go.Proofs.YtmnhooepaemlcaaGreat

namespace Go.Proofs.YtmnhooepaemlcaaGreat
open Go Go.Pw Go.Sort
set_option maxRecDepth 100000
set_option maxHeartbeats 4000000
set_option synthInstance.maxHeartbeats 400000
set_option synthInstance.maxSize 2000
attribute [local irreducible] CW OW RW thenK blockK
attribute [local irreducible] scopeK loopK TRW ATW
theorem sh32 {x : Int} : shrV .u64 x 32 = x / 4294967296 := by simpa using shrK (x := x) 32 (by decide)
theorem sh16 {x : Int} : shrV .u64 x 16 = x / 65536 := by simpa using shrK (x := x) 16 (by decide)
theorem sh8 {x : Int} : shrV .u64 x 8 = x / 256 := by simpa using shrK (x := x) 8 (by decide)
theorem len64 (N : Nat) (h : N < 18446744073709551616) (L : Chunk) : Fn1 Tryz.prog 196 [.int .u64 (N : Int)] L (fun u L' => u = .int .i64 (bitsLen N : Nat) ∧ L = L') := by
 intro w0; refine Spec.enter1 Tryz.func196 rfl Tryz.ntmps196 (by decide) ?_
 by_cases c1 : 4294967296 ≤ N
 ·have b1 : bitsLen N = 32 + bitsLen (N / 4294967296) := bl_shift (k := 32) c1
  obtain ⟨N1, hN1⟩ : ∃ r, N / 4294967296 = r := ⟨_, rfl⟩
  rw [hN1] at b1
  have hc : (N : Int) / 4294967296 = (N1 : Int) := by omega
  have z1 : ShN (N : Int) 32 (N1 : Int) := ⟨by rw [sh32, hc]⟩
  by_cases c2 : 65536 ≤ N1
  ·have b2 : bitsLen N1 = 16 + bitsLen (N1 / 65536) := bl_shift (k := 16) c2
   obtain ⟨N2, hN2⟩ : ∃ r, N1 / 65536 = r := ⟨_, rfl⟩
   rw [hN2] at b2
   have hc2 : (N1 : Int) / 65536 = (N2 : Int) := by omega
   have z2 : ShN (N1 : Int) 16 (N2 : Int) := ⟨by rw [sh16, hc2]⟩
   by_cases c3 : 256 ≤ N2
   ·have b3 : bitsLen N2 = 8 + bitsLen (N2 / 256) := bl_shift (k := 8) c3
    obtain ⟨N3, hN3⟩ : ∃ r, N2 / 256 = r := ⟨_, rfl⟩
    rw [hN3] at b3
    have hc3 : (N2 : Int) / 256 = (N3 : Int) := by omega
    have z3 : ShN (N2 : Int) 8 (N3 : Int) := ⟨by rw [sh8, hc3]⟩
    repeat' (first|refine Ga0 fun _=>?_|refine Ga1 ?_|refine Ga2 (fun _=>?_) fun _=>?_|refine Ga3 ?_|refine Ga4 fun _=>?_|fail)
    refine OW.ixLen (by decide +kernel) (by omega) (fun r hr hr8 => ?_)
    have hr' : r = bitsLen N3 := hr
    repeat' (first|refine Ga0 fun _=>?_|refine Ga1 ?_|refine Ga2 (fun _=>?_) fun _=>?_|refine Ga3 ?_|refine Ga4 fun _=>?_|fail)
    exact bodyK.retD L (Res.one Tryz.results196) ⟨by congr 1; omega, rfl⟩
   ·repeat' (first|refine Ga0 fun _=>?_|refine Ga1 ?_|refine Ga2 (fun _=>?_) fun _=>?_|refine Ga3 ?_|refine Ga4 fun _=>?_|fail)
    refine OW.ixLen (by decide +kernel) (by omega) (fun r hr hr8 => ?_)
    have hr' : r = bitsLen N2 := hr
    repeat' (first|refine Ga0 fun _=>?_|refine Ga1 ?_|refine Ga2 (fun _=>?_) fun _=>?_|refine Ga3 ?_|refine Ga4 fun _=>?_|fail)
    exact bodyK.retD L (Res.one Tryz.results196) ⟨by congr 1; omega, rfl⟩
  ·have b2 : bitsLen N1 = 0 + bitsLen N1 := by omega
   generalize hq2 : N1 = N2 at *
   by_cases c3 : 256 ≤ N2
   ·have b3 : bitsLen N2 = 8 + bitsLen (N2 / 256) := bl_shift (k := 8) c3
    obtain ⟨N3, hN3⟩ : ∃ r, N2 / 256 = r := ⟨_, rfl⟩
    rw [hN3] at b3
    have hc3 : (N2 : Int) / 256 = (N3 : Int) := by omega
    have z3 : ShN (N2 : Int) 8 (N3 : Int) := ⟨by rw [sh8, hc3]⟩
    repeat' (first|refine Ga0 fun _=>?_|refine Ga1 ?_|refine Ga2 (fun _=>?_) fun _=>?_|refine Ga3 ?_|refine Ga4 fun _=>?_|fail)
    refine OW.ixLen (by decide +kernel) (by omega) (fun r hr hr8 => ?_)
    have hr' : r = bitsLen N3 := hr
    repeat' (first|refine Ga0 fun _=>?_|refine Ga1 ?_|refine Ga2 (fun _=>?_) fun _=>?_|refine Ga3 ?_|refine Ga4 fun _=>?_|fail)
    exact bodyK.retD L (Res.one Tryz.results196) ⟨by congr 1; omega, rfl⟩
   ·repeat' (first|refine Ga0 fun _=>?_|refine Ga1 ?_|refine Ga2 (fun _=>?_) fun _=>?_|refine Ga3 ?_|refine Ga4 fun _=>?_|fail)
    refine OW.ixLen (by decide +kernel) (by omega) (fun r hr hr8 => ?_)
    have hr' : r = bitsLen N2 := hr
    repeat' (first|refine Ga0 fun _=>?_|refine Ga1 ?_|refine Ga2 (fun _=>?_) fun _=>?_|refine Ga3 ?_|refine Ga4 fun _=>?_|fail)
    exact bodyK.retD L (Res.one Tryz.results196) ⟨by congr 1; omega, rfl⟩
 ·have b1 : bitsLen N = 0 + bitsLen N := by omega
  generalize hq : N = N1 at *
  by_cases c2 : 65536 ≤ N1
  ·have b2 : bitsLen N1 = 16 + bitsLen (N1 / 65536) := bl_shift (k := 16) c2
   obtain ⟨N2, hN2⟩ : ∃ r, N1 / 65536 = r := ⟨_, rfl⟩
   rw [hN2] at b2
   have hc2 : (N1 : Int) / 65536 = (N2 : Int) := by omega
   have z2 : ShN (N1 : Int) 16 (N2 : Int) := ⟨by rw [sh16, hc2]⟩
   by_cases c3 : 256 ≤ N2
   ·have b3 : bitsLen N2 = 8 + bitsLen (N2 / 256) := bl_shift (k := 8) c3
    obtain ⟨N3, hN3⟩ : ∃ r, N2 / 256 = r := ⟨_, rfl⟩
    rw [hN3] at b3
    have hc3 : (N2 : Int) / 256 = (N3 : Int) := by omega
    have z3 : ShN (N2 : Int) 8 (N3 : Int) := ⟨by rw [sh8, hc3]⟩
    repeat' (first|refine Ga0 fun _=>?_|refine Ga1 ?_|refine Ga2 (fun _=>?_) fun _=>?_|refine Ga3 ?_|refine Ga4 fun _=>?_|fail)
    refine OW.ixLen (by decide +kernel) (by omega) (fun r hr hr8 => ?_)
    have hr' : r = bitsLen N3 := hr
    repeat' (first|refine Ga0 fun _=>?_|refine Ga1 ?_|refine Ga2 (fun _=>?_) fun _=>?_|refine Ga3 ?_|refine Ga4 fun _=>?_|fail)
    exact bodyK.retD L (Res.one Tryz.results196) ⟨by congr 1; omega, rfl⟩
   ·repeat' (first|refine Ga0 fun _=>?_|refine Ga1 ?_|refine Ga2 (fun _=>?_) fun _=>?_|refine Ga3 ?_|refine Ga4 fun _=>?_|fail)
    refine OW.ixLen (by decide +kernel) (by omega) (fun r hr hr8 => ?_)
    have hr' : r = bitsLen N2 := hr
    repeat' (first|refine Ga0 fun _=>?_|refine Ga1 ?_|refine Ga2 (fun _=>?_) fun _=>?_|refine Ga3 ?_|refine Ga4 fun _=>?_|fail)
    exact bodyK.retD L (Res.one Tryz.results196) ⟨by congr 1; omega, rfl⟩
  ·have b2 : bitsLen N1 = 0 + bitsLen N1 := by omega
   generalize hq2 : N1 = N2 at *
   by_cases c3 : 256 ≤ N2
   ·have b3 : bitsLen N2 = 8 + bitsLen (N2 / 256) := bl_shift (k := 8) c3
    obtain ⟨N3, hN3⟩ : ∃ r, N2 / 256 = r := ⟨_, rfl⟩
    rw [hN3] at b3
    have hc3 : (N2 : Int) / 256 = (N3 : Int) := by omega
    have z3 : ShN (N2 : Int) 8 (N3 : Int) := ⟨by rw [sh8, hc3]⟩
    repeat' (first|refine Ga0 fun _=>?_|refine Ga1 ?_|refine Ga2 (fun _=>?_) fun _=>?_|refine Ga3 ?_|refine Ga4 fun _=>?_|fail)
    refine OW.ixLen (by decide +kernel) (by omega) (fun r hr hr8 => ?_)
    have hr' : r = bitsLen N3 := hr
    repeat' (first|refine Ga0 fun _=>?_|refine Ga1 ?_|refine Ga2 (fun _=>?_) fun _=>?_|refine Ga3 ?_|refine Ga4 fun _=>?_|fail)
    exact bodyK.retD L (Res.one Tryz.results196) ⟨by congr 1; omega, rfl⟩
   ·repeat' (first|refine Ga0 fun _=>?_|refine Ga1 ?_|refine Ga2 (fun _=>?_) fun _=>?_|refine Ga3 ?_|refine Ga4 fun _=>?_|fail)
    refine OW.ixLen (by decide +kernel) (by omega) (fun r hr hr8 => ?_)
    have hr' : r = bitsLen N2 := hr
    repeat' (first|refine Ga0 fun _=>?_|refine Ga1 ?_|refine Ga2 (fun _=>?_) fun _=>?_|refine Ga3 ?_|refine Ga4 fun _=>?_|fail)
    exact bodyK.retD L (Res.one Tryz.results196) ⟨by congr 1; omega, rfl⟩
end Go.Proofs.YtmnhooepaemlcaaGreat

namespace Go.Proofs.YtmnhooepaemlcaaGreat
open Go Go.Pw Go.Sort
set_option maxRecDepth 100000
set_option maxHeartbeats 4000000
set_option synthInstance.maxHeartbeats 400000
set_option synthInstance.maxSize 2000
attribute [local irreducible] CW OW RW thenK blockK
attribute [local irreducible] scopeK loopK TRW ATW
theorem bitsLen' (N : Nat) (h : N < 18446744073709551616) (L : Chunk) : Fn1 Tryz.prog 156 [.int .u64 (N : Int)] L (fun u L' => u = .int .i64 (bitsLen N : Nat) ∧ L = L') := by
 intro w0; refine Spec.enter1 Tryz.func156 rfl Tryz.ntmps156 (by decide) ?_
 repeat' (first|refine Ga0 fun _=>?_|refine Ga1 ?_|refine Ga2 (fun _=>?_) fun _=>?_|refine Ga3 ?_|refine Ga4 fun _=>?_|fail)
 refine OW.call (len64 N h _) ?_
 rintro _ _ ⟨rfl, rfl⟩
 repeat' (first|refine Ga0 fun _=>?_|refine Ga1 ?_|refine Ga2 (fun _=>?_) fun _=>?_|refine Ga3 ?_|refine Ga4 fun _=>?_|fail)
 exact bodyK.retD L (Res.one Tryz.results156) ⟨rfl, rfl⟩
end Go.Proofs.YtmnhooepaemlcaaGreat

namespace Go.Proofs.YtmnhooepaemlcaaGreat
open Go Go.Pw Go.Sort
set_option maxRecDepth 100000
set_option maxHeartbeats 4000000
set_option synthInstance.maxHeartbeats 400000
set_option synthInstance.maxSize 2000
attribute [local irreducible] CW OW RW thenK blockK
attribute [local irreducible] scopeK loopK TRW ATW
theorem insNilS (L : Chunk) : Fn1 Tryz.prog 203 [.slice none 0 0, .int .i64 0, .int .i64 0] L (fun _ L' => L = L') := by
 intro w0; refine Spec.enter3 Tryz.func203 rfl Tryz.ntmps203 (by decide) ?_
 repeat' (first|refine Gi0 fun _=>?_|refine Gi1 ?_|refine CW.drawsP (id := 4) [0,1,2,3,4,5,6,7,8,9,10,11,12,13,14] mixed (by kernel_rfl) ?_|refine CW.drawsSw (id := 6) [0, 1, 2, 3, 4, 5, 6, 7, 8, 10, 11, 12] [9, 13] 14 [15, 16, 17] mixed (by kernel_rfl) ?_|refine Gi2 (fun _=>?_) fun _=>?_|refine Gi3 ?_|refine Gi4 fun _=>?_|fail)
 refine CW.loop (fun k ρ ds L' => ds = [] ∧ L' = L ∧ Ev ρ 6 (.int .i64 1) ∧ Ev ρ 0 (.slice none 0 0) ∧ Ev ρ 1 (.int .i64 0) ∧ Ev ρ 2 (.int .i64 0)) 0 ⟨rfl, rfl, inferInstance, inferInstance, inferInstance, inferInstance⟩ ?_
 rintro k ρ ds L' ⟨rfl, rfl, e6, e0, e1, e2⟩
 repeat' (first|refine Gi0 fun _=>?_|refine Gi1 ?_|refine CW.drawsP (id := 4) [0,1,2,3,4,5,6,7,8,9,10,11,12,13,14] mixed (by kernel_rfl) ?_|refine CW.drawsSw (id := 6) [0, 1, 2, 3, 4, 5, 6, 7, 8, 10, 11, 12] [9, 13] 14 [15, 16, 17] mixed (by kernel_rfl) ?_|refine Gi2 (fun _=>?_) fun _=>?_|refine Gi3 ?_|refine Gi4 fun _=>?_|fail)
 exact bodyK.nrm (Res.zero Tryz.results203) rfl
theorem pdqNilS (lim : Nat) (L : Chunk) : Fn1 Tryz.prog 174 [.slice none 0 0, .int .i64 0, .int .i64 0, .int .i64 lim] L (fun _ L' => L = L') := by
 intro w0; refine Spec.enter4 Tryz.func174 rfl Tryz.ntmps174 (by decide) ?_
 repeat' (first|refine Gj0 fun _=>?_|refine Gj1 ?_|refine CW.drawsP (id := 17) [0,1,2,3,4,5,6,7,8,9,10,11,12,13,14] mixed (by kernel_rfl) ?_|refine Gj2 (fun _=>?_) fun _=>?_|refine Gj3 ?_|refine Gj4 fun _=>?_|fail)
 refine CW.loop (fun k ρ ds L' => ds = [] ∧ L' = L ∧ Ev ρ 0 (.slice none 0 0) ∧ Ev ρ 1 (.int .i64 0) ∧ Ev ρ 2 (.int .i64 0)) 0 ⟨rfl, rfl, inferInstance, inferInstance, inferInstance⟩ ?_
 rintro k ρ ds L' ⟨rfl, rfl, e0, e1, e2⟩
 repeat' (first|refine Gj0 fun _=>?_|refine Gj1 ?_|refine CW.drawsP (id := 17) [0,1,2,3,4,5,6,7,8,9,10,11,12,13,14] mixed (by kernel_rfl) ?_|refine Gj2 (fun _=>?_) fun _=>?_|refine Gj3 ?_|refine Gj4 fun _=>?_|fail)
 refine OW.call (insNilS _) ?_
 rintro _ _ rfl
 repeat' (first|refine Gj0 fun _=>?_|refine Gj1 ?_|refine CW.drawsP (id := 17) [0,1,2,3,4,5,6,7,8,9,10,11,12,13,14] mixed (by kernel_rfl) ?_|refine Gj2 (fun _=>?_) fun _=>?_|refine Gj3 ?_|refine Gj4 fun _=>?_|fail)
 exact bodyK.ret (Res.zero Tryz.results174) rfl
theorem pdq_smallS {d : Array Int} {a b limit : Nat} {wb wp : Bool} (h : b - a ≤ 12) : pdq ltInt d a b limit wb wp = insertionSort ltInt d a b := by rw [pdq]; rw [if_pos h]
theorem pdqS (b cap m lim : Nat) (rest : List Value) (d : Array Int) (L : Chunk) (hm : m ≤ 12) (hlim : lim ≤ 1000) (hd : Srt m d) :
  Fn1 Tryz.prog 174 [.slice (some ⟨b, 0, none⟩) m cap, .int .i64 0, .int .i64 m, .int .i64 lim] ((b, .cells (kvs .i64 d ++ rest).toArray 3 (0, 0)) :: L)
   (fun _ L' => L' = (b, .cells (kvs .i64 (insertionSort ltInt d 0 m) ++ rest).toArray 3 (0, 0)) :: L) := by
 intro w0; refine Spec.enter4 Tryz.func174 rfl Tryz.ntmps174 (by decide) ?_
 have hml := hd.len
 repeat' (first|refine Gj1 ?_|refine CW.drawsP (id := 17) [0,1,2,3,4,5,6,7,8,9,10,11,12,13,14] mixed (by kernel_rfl) ?_|refine Gj2 (fun _=>?_) fun _=>?_|refine Gj3 ?_|refine Gj4 fun _=>?_|fail)
 refine CW.loop (fun k ρ ds L' => ds = [] ∧ L' = (b, .cells (kvs .i64 d ++ rest).toArray 3 (0, 0)) :: L ∧ Ev ρ 1 (.int .i64 0) ∧ Ev ρ 2 (.int .i64 (m : Int)) ∧ Ev ρ 0 (.slice (some ⟨b, 0, none⟩) m cap)) 0 ⟨rfl, rfl, inferInstance, inferInstance, inferInstance⟩ ?_
 rintro k ρ ds L' ⟨rfl, rfl, e1, e2, e0⟩
 repeat' (first|refine Gj0 fun _=>?_|refine Gj1 ?_|refine CW.drawsP (id := 17) [0,1,2,3,4,5,6,7,8,9,10,11,12,13,14] mixed (by kernel_rfl) ?_|refine Gj2 (fun _=>?_) fun _=>?_|refine Gj3 ?_|refine Gj4 fun _=>?_|fail)
 refine OW.call (insertionSortI b cap m 0 m d rest L hd (Nat.zero_le _) (Nat.le_refl _)) ?_
 rintro _ _ rfl
 repeat' (first|refine Gj0 fun _=>?_|refine Gj1 ?_|refine CW.drawsP (id := 17) [0,1,2,3,4,5,6,7,8,9,10,11,12,13,14] mixed (by kernel_rfl) ?_|refine Gj2 (fun _=>?_) fun _=>?_|refine Gj3 ?_|refine Gj4 fun _=>?_|fail)
 exact bodyK.ret (Res.zero Tryz.results174) rfl
theorem sortS (zs : List Int) (u : Value) (N L : Chunk) (hrow : Row 3 1 N u zs.length (zs.map (Value.int .i64))) (hl : zs.length ≤ 12) :
  Fn1 Tryz.prog 135 [u] (N ++ L) (fun _ L' => ∃ N', L' = N' ++ L ∧ Row 3 1 N' u zs.length ((zs.mergeSort fun x y => decide (x ≤ y)).map (Value.int .i64))) := by
 have hbl : bitsLen zs.length ≤ 62 := (bitsLen_le_iff _ 62).2 (by omega)
 rcases hrow.2 with ⟨rfl, h0, rfl⟩ | ⟨b, cap, rest, rfl, rfl, hcap, hrl⟩
 ·obtain rfl : zs = [] := List.eq_nil_of_length_eq_zero h0
  intro w0; refine Spec.enter1 Tryz.func135 rfl Tryz.ntmps135 (by decide) ?_
  repeat' (first|refine Ga0 fun _=>?_|refine Ga1 ?_|refine Ga2 (fun _=>?_) fun _=>?_|refine Ga3 ?_|refine Ga4 fun _=>?_|fail)
  refine OW.call (bitsLen' 0 (by decide) _) ?_
  rintro _ _ ⟨rfl, rfl⟩
  repeat' (first|refine Ga0 fun _=>?_|refine Ga1 ?_|refine Ga2 (fun _=>?_) fun _=>?_|refine Ga3 ?_|refine Ga4 fun _=>?_|fail)
  refine OW.call (pdqNilS _ _) ?_
  rintro _ _ rfl
  repeat' (first|refine Ga0 fun _=>?_|refine Ga1 ?_|refine Ga2 (fun _=>?_) fun _=>?_|refine Ga3 ?_|refine Ga4 fun _=>?_|fail)
  exact bodyK.nrm (Res.zero Tryz.results135) ⟨[], rfl, by simpa using hrow⟩
 ·intro w0; refine Spec.enter1 Tryz.func135 rfl Tryz.ntmps135 (by decide) ?_
  have hS : Srt zs.length zs.toArray := ⟨by simp, by omega⟩
  have hp := pdqS b cap zs.length (bitsLen zs.length) rest zs.toArray L hl (by omega) hS
  have hsrt : insertionSort ltInt zs.toArray 0 zs.length = (zs.mergeSort fun x y => decide (x ≤ y)).toArray := by
   have := sortInt zs
   unfold Sort.sort at this
   simp only [List.size_toArray] at this
   rw [← this, pdq_smallS (by omega)]
  rw [hsrt] at hp
  have hk1 : kvs .i64 zs.toArray = zs.map (Value.int .i64) := rfl
  have hk2 : kvs .i64 (zs.mergeSort fun x y => decide (x ≤ y)).toArray = (zs.mergeSort fun x y => decide (x ≤ y)).map (Value.int .i64) := rfl
  rw [hk1, hk2] at hp
  repeat' (first|refine Ga0 fun _=>?_|refine Ga1 ?_|refine Ga2 (fun _=>?_) fun _=>?_|refine Ga3 ?_|refine Ga4 fun _=>?_|fail)
  refine OW.call (bitsLen' zs.length (by omega) _) ?_
  rintro _ _ ⟨rfl, rfl⟩
  repeat' (first|refine Ga0 fun _=>?_|refine Ga1 ?_|refine Ga2 (fun _=>?_) fun _=>?_|refine Ga3 ?_|refine Ga4 fun _=>?_|fail)
  refine OW.call hp ?_
  rintro _ _ rfl
  repeat' (first|refine Ga0 fun _=>?_|refine Ga1 ?_|refine Ga2 (fun _=>?_) fun _=>?_|refine Ga3 ?_|refine Ga4 fun _=>?_|fail)
  refine bodyK.nrm (Res.zero Tryz.results135) ⟨[_], rfl, ⟨by simp, .inr ⟨b, cap, rest, rfl, rfl, hcap, ?_⟩⟩⟩
  simpa using hrl
end Go.Proofs.YtmnhooepaemlcaaGreat

namespace Go.Proofs.YtmnhooepaemlcaaGreat
open Go Go.Pw
set_option maxRecDepth 100000
set_option maxHeartbeats 4000000
set_option synthInstance.maxHeartbeats 400000
set_option synthInstance.maxSize 2000
attribute [local irreducible] CW OW RW thenK blockK
attribute [local irreducible] scopeK loopK TRW ATW
theorem sortedS (f : FuncId) (cap : List Value) [he : Entr Tryz.prog f] (zs : List Int) (L : Chunk) (hs : SeqV Tryz.prog (.func (.func f) #[] cap.toArray) L (zs.map fun z => [.int .i64 z])) (hl : zs.length ≤ 12) :
  Fn1 Tryz.prog 91 [.func (.func f) #[] cap.toArray] L
   (fun u L' => ∃ N, L' = N ++ L ∧ Row 3 1 N u zs.length ((zs.mergeSort fun x y => decide (x ≤ y)).map (Value.int .i64))) := by
 intro w0; refine Spec.enter1 Tryz.func91 rfl Tryz.ntmps91 (by decide) ?_
 repeat' (first|refine Ga0 fun _=>?_|refine Ga1 ?_|refine Ga2 (fun _=>?_) fun _=>?_|refine Ga3 ?_|refine Ga4 fun _=>?_|fail)
 refine OW.call (collectI f cap zs _ hs.to (by omega)) ?_
 rintro u _ ⟨N, rfl, hrow⟩
 have sv := hrow.sng
 repeat' (first|refine Ga0 fun _=>?_|refine Ga1 ?_|refine Ga2 (fun _=>?_) fun _=>?_|refine Ga3 ?_|refine Ga4 fun _=>?_|fail)
 refine OW.call (sortS zs u N L hrow hl) ?_
 rintro _ _ ⟨N', rfl, hrow'⟩
 repeat' (first|refine Ga0 fun _=>?_|refine Ga1 ?_|refine Ga2 (fun _=>?_) fun _=>?_|refine Ga3 ?_|refine Ga4 fun _=>?_|fail)
 exact bodyK.ret (Res.one Tryz.results91) ⟨N', rfl, hrow'⟩
end Go.Proofs.YtmnhooepaemlcaaGreat
