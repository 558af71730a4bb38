/- OrderCalls: true for every input; arguments as before. Part 24. Conditions: none. -/
import Derived.Test.YtmnhooepaemlcaaGreatOC2
import Derived.Test.YtmnhooepaemlcaaGreatOC21
set_option linter.all false
namespace Go.Proofs.YtmnhooepaemlcaaGreat
open Go Go.Pw Go.Pw.Sc Go.Pw.Md Go.Pw.Jd
set_option maxRecDepth 100000
set_option maxHeartbeats 4000000
set_option synthInstance.maxHeartbeats 400000
set_option synthInstance.maxSize 2000
attribute [local irreducible] CW OW RW thenK blockK
attribute [local irreducible] scopeK loopK TRW ATW
structure OkE (e : CE) : Prop where
 s1 : Sng e.2.1
 s2 : Sng e.2.2
 w1 : -1 ≤ e.1.work
 w2 : e.1.work ≤ 4096
theorem swap_perm {α : Type} {l : List α} {i j : Nat} (hi : i < l.length) (hj : j < l.length) : ((l.set i l[j]).set j l[i]).Perm l := by
 have h := Array.perm_iff_toList_perm.1 (Array.swap_perm (xs := l.toArray) (i := i) (j := j) (by simpa using hi) (by simpa using hj))
 simpa [Array.swap_def] using h
theorem swapAll (st : List CE) (i j k : Nat) (pre rest : List Value) (hk : pre.length = k) (hi : i < st.length) (hj : j < st.length) (hs : ∀ e ∈ st, OkE e) :
  ∃ (c1 : Cl) (x1 b1 : Value) (c2 : Cl) (x2 b2 : Value) (stm st' : List CE), CutL (pre ++ (flR clE st ++ rest)) (k + i * 13) 13 (clC c1 x1 b1) ∧ CutL (pre ++ (flR clE st ++ rest)) (k + j * 13) 13 (clC c2 x2 b2) ∧
   PutL (pre ++ (flR clE st ++ rest)) (k + i * 13) (clC c2 x2 b2) (pre ++ (flR clE stm ++ rest)) ∧ PutL (pre ++ (flR clE stm ++ rest)) (k + j * 13) (clC c1 x1 b1) (pre ++ (flR clE st' ++ rest)) ∧ st'.Perm st ∧
   Sng x1 ∧ Sng b1 ∧ Sng x2 ∧ Sng b2 ∧ (-1 ≤ c1.work ∧ c1.work ≤ 4096) ∧ (-1 ≤ c2.work ∧ c2.work ≤ 4096) :=
 have h1 := hs _ (List.getElem_mem hi)
 have h2 := hs _ (List.getElem_mem hj)
 ⟨st[i].1, st[i].2.1, st[i].2.2, st[j].1, st[j].2.1, st[j].2.2, st.set i st[j], (st.set i st[j]).set j st[i], flR_cut clE_len hk hi, flR_cut clE_len hk hj, flR_put clE_len hk hi st[j],
  flR_put (es := st.set i st[j]) clE_len hk (by simpa using hj) st[i], swap_perm hi hj, h1.s1, h1.s2, h2.s1, h2.s2, ⟨h1.w1, h1.w2⟩, ⟨h2.w1, h2.w2⟩⟩
def CmpV (fv : Value) : Prop := ∀ (c d : Cl) (x1 b1 x2 b2 : Value) (L : Chunk), Sng x1 → Sng b1 → Sng x2 → Sng b2 → (-1 ≤ c.work ∧ c.work ≤ 4096) → (-1 ≤ d.work ∧ d.work ≤ 4096) →
 VP Tryz.prog fv [.agg (clC c x1 b1).toArray, .agg (clC d x2 b2).toArray] L (fun u L' => (∃ z, u = .int .i64 z) ∧ L = L') noPanic
theorem jInsE (fv : Value) (hf : CmpV fv) (sf : Sng fv) (b k cap lo hi : Nat) (A B : Int) (pre rest : List Value) (es : List CE) (L : Chunk) (hA : A = lo) (hB : B = hi) (hk : pre.length = k) (hs : ∀ e ∈ es, OkE e) (m : Nat) (hml : es.length = m) (hm : m ≤ 4096) (hlo : lo ≤ 4096) (hhm : hi ≤ m) :
  Fn1 Tryz.prog 145 [.slice (some ⟨b, k, none⟩) m cap, .int .i64 A, .int .i64 B, fv] ((b, .cells (pre ++ (flR clE es ++ rest)).toArray 123 (0, 0)) :: L)
   (fun _ L' => ∃ es', es'.Perm es ∧ L' = (b, .cells (pre ++ (flR clE es' ++ rest)).toArray 123 (0, 0)) :: L) := by
 subst hA hB
 intro w0; refine Spec.enter4 Tryz.func145 rfl Tryz.ntmps145 (by decide) ?_
 have z4:DrP 4 [0,1,2,3,4,5,6,7,8,9,10,11,12,13,14,15,16]:=⟨⟨⟩⟩; have z6:DrC 6 [0, 1, 2, 3, 4, 5, 6, 7, 8, 10, 11, 12] [9, 13] 14 [15, 16, 17]:=⟨⟨⟩⟩
 repeat' (first|refine Gi0 fun _=>?_|refine Gi1 ?_|refine Gi2 (fun _=>?_) fun _=>?_|refine Gi3 ?_|fail)
 refine CW.loop (fun κ ρ ds L' => ds = [] ∧ (∃ (i : Nat) (st : List CE), L' = (b, .cells (pre ++ (flR clE st ++ rest)).toArray 123 (0, 0)) :: L ∧ st.Perm es ∧ lo < i ∧ i ≤ 5000 ∧ κ = hi - i ∧ Ev ρ 8 (.int .i64 (i : Int))) ∧ Ev ρ 0 (.slice (some ⟨b, k, none⟩) m cap) ∧ Ev ρ 1 (.int .i64 lo) ∧ Ev ρ 2 (.int .i64 hi) ∧ Ev ρ 3 fv) (hi - (lo + 1))
  ⟨rfl, ⟨lo + 1, es, rfl, .refl _, by omega, by omega, rfl, by rw [Int.natCast_add]; infer_instance⟩, ii, ii, ii, ii⟩ ?_
 rintro κ ρ ds L' ⟨rfl, ⟨i, st, rfl, hp, hi1, hi2, rfl, e8⟩, e0, e1, e2, e3⟩
 by_cases hlt : i < hi
 ·repeat' (first|refine Gi0 fun _=>?_|refine Gi1 ?_|refine Gi2 (fun _=>?_) fun _=>?_|refine Gi3 ?_|fail)
  refine CW.loop (fun κ ρ ds L' => ds = [] ∧ (∃ (j : Nat) (st : List CE), L' = (b, .cells (pre ++ (flR clE st ++ rest)).toArray 123 (0, 0)) :: L ∧ st.Perm es ∧ j ≤ i ∧ j = κ ∧ Ev ρ 9 (.int .i64 (j : Int))) ∧ Ev ρ 0 (.slice (some ⟨b, k, none⟩) m cap) ∧ Ev ρ 1 (.int .i64 lo) ∧ Ev ρ 2 (.int .i64 hi) ∧ Ev ρ 3 fv ∧ Ev ρ 8 (.int .i64 (i : Int))) i
   ⟨rfl, ⟨i, st, rfl, hp, by omega, rfl, ii⟩, ii, ii, ii, ii, ii⟩ ?_
  clear hp e8 e0 e1 e2 e3
  rintro κ ρ ds L' ⟨rfl, ⟨j, st, rfl, hp, hj, rfl, e9⟩, e0, e1, e2, e3, e8⟩
  by_cases hja : lo < j
  ·obtain ⟨j, rfl⟩ : ∃ j', j = j' + 1 := ⟨j - 1, by omega⟩
   have hsl := hp.length_eq
   obtain ⟨c1, x1, b1, c2, x2, b2, stm, st', g1, g2, g3, g4, g5, s1, s2, s3, s4, w1, w2⟩ := swapAll st (j + 1) j k pre rest hk (by omega) (by omega) (fun e he => hs e (hp.mem_iff.1 he))
   have t1 : ToN (((j + 1 : Nat) : Int) - 1) j := ⟨by omega⟩
   repeat' (first|refine Gi0 fun _=>?_|refine Gi1 ?_|refine Gi2 (fun _=>?_) fun _=>?_|refine Gi3 ?_|fail)
   refine RW.callV1 (hf c1 c2 x1 b1 x2 b2 _ s1 s2 s3 s4 w1 w2) ?_
   rintro _ _ ⟨⟨z, rfl⟩, rfl⟩
   refine pinAll ?_
   by_cases hz : z < 0
   ·repeat' (first|refine Gi0 fun _=>?_|refine Gi1 ?_|refine Gi2 (fun _=>?_) fun _=>?_|refine Gi3 ?_|fail)
    rw [show ((j + 1 : Nat) : Int) - 1 = (j : Int) by omega]
    exact ⟨j, by omega, rfl, ⟨j, st', rfl, g5.trans hp, by omega, rfl, ii⟩, ii, ii, ii, ii, ii⟩
   ·repeat' (first|refine Gi0 fun _=>?_|refine Gi1 ?_|refine Gi2 (fun _=>?_) fun _=>?_|refine Gi3 ?_|fail)
    exact ⟨hi - (i + 1), by omega, rfl, ⟨i + 1, st, rfl, hp, by omega, by omega, rfl, by rw [Int.natCast_add]; infer_instance⟩, ii, ii, ii, ii⟩
  ·repeat' (first|refine Gi0 fun _=>?_|refine Gi1 ?_|refine Gi2 (fun _=>?_) fun _=>?_|refine Gi3 ?_|fail)
   exact ⟨hi - (i + 1), by omega, rfl, ⟨i + 1, st, rfl, hp, by omega, by omega, rfl, by rw [Int.natCast_add]; infer_instance⟩, ii, ii, ii, ii⟩
 ·repeat' (first|refine Gi0 fun _=>?_|refine Gi1 ?_|refine Gi2 (fun _=>?_) fun _=>?_|refine Gi3 ?_|fail)
  exact bodyK.nrm (Res.zero Tryz.results145) ⟨st, hp, rfl⟩
theorem jSwapR (fv : Value) (sf : Sng fv) (b k cap lo hi n : Nat) (A B N : Int) (pre rest : List Value) (es : List CE) (L : Chunk) (hA : A = lo) (hB : B = hi) (hN : N = n) (hk : pre.length = k) (hs : ∀ e ∈ es, OkE e) (m : Nat) (hml : es.length = m) (hm : m ≤ 4096) (h1 : lo + n ≤ m) (h2 : hi + n ≤ m) :
  Fn1 Tryz.prog 212 [.slice (some ⟨b, k, none⟩) m cap, .int .i64 A, .int .i64 B, .int .i64 N, fv] ((b, .cells (pre ++ (flR clE es ++ rest)).toArray 123 (0, 0)) :: L)
   (fun _ L' => ∃ es', es'.Perm es ∧ L' = (b, .cells (pre ++ (flR clE es' ++ rest)).toArray 123 (0, 0)) :: L) := by
 subst hA hB hN
 intro w0; refine Spec.enter5 Tryz.func212 rfl Tryz.ntmps212 (by decide) ?_
 have z3:DrC 3 [0, 1, 2, 3, 4, 5, 6, 7, 8, 9, 10, 11, 12, 14, 15, 16, 17, 18] [13, 19] 20 [21, 22, 23]:=⟨⟨⟩⟩
 repeat' (first|refine Gi0 fun _=>?_|refine Gi1 ?_|refine Gi2 (fun _=>?_) fun _=>?_|refine Gi3 ?_|fail)
 refine CW.count n (fun i ρ ds L' => ds = [] ∧ (∃ (st : List CE), L' = (b, .cells (pre ++ (flR clE st ++ rest)).toArray 123 (0, 0)) :: L ∧ st.Perm es) ∧ Ev ρ 0 (.slice (some ⟨b, k, none⟩) m cap) ∧ Ev ρ 1 (.int .i64 lo) ∧ Ev ρ 2 (.int .i64 hi) ∧ Ev ρ 3 (.int .i64 n) ∧ Ev ρ 10 (.int .i64 (i : Int)))
  ⟨rfl, ⟨es, rfl, .refl _⟩, ii, ii, ii, ii, ii⟩ ?_
 rintro i ρ ds L' hi' ⟨rfl, ⟨st, rfl, hp⟩, e0, e1, e2, e3, e10⟩
 by_cases hlt : i < n
 ·have hsl := hp.length_eq
  obtain ⟨c1, x1, b1, c2, x2, b2, stm, st', g1, g2, g3, g4, g5, s1, s2, s3, s4, w1, w2⟩ := swapAll st (lo + i) (hi + i) k pre rest hk (by omega) (by omega) (fun e he => hs e (hp.mem_iff.1 he))
  have t1 : ToN ((lo : Int) + (i : Int)) (lo + i) := ⟨by omega⟩
  have t2 : ToN ((hi : Int) + (i : Int)) (hi + i) := ⟨by omega⟩
  repeat' (first|refine Gi0 fun _=>?_|refine Gi1 ?_|refine Gi2 (fun _=>?_) fun _=>?_|refine Gi3 ?_|fail)
  exact ⟨hlt, rfl, ⟨st', rfl, g5.trans hp⟩, ii, ii, ii, ii, by rw [Int.natCast_add]; infer_instance⟩
 ·repeat' (first|refine Gi0 fun _=>?_|refine Gi1 ?_|refine Gi2 (fun _=>?_) fun _=>?_|refine Gi3 ?_|fail)
  exact bodyK.nrm (Res.zero Tryz.results212) ⟨st, hp, rfl⟩
theorem jRot (fv : Value) (sf : Sng fv) (b k cap lo mi hi : Nat) (A M B : Int) (pre rest : List Value) (es : List CE) (L : Chunk) (hA : A = lo) (hM : M = mi) (hB : B = hi) (hk : pre.length = k) (hs : ∀ e ∈ es, OkE e) (m : Nat) (hml : es.length = m) (hm : m ≤ 4096) (h1 : lo < mi) (h2 : mi < hi) (h3 : hi ≤ m) :
  Fn1 Tryz.prog 176 [.slice (some ⟨b, k, none⟩) m cap, .int .i64 A, .int .i64 M, .int .i64 B, fv] ((b, .cells (pre ++ (flR clE es ++ rest)).toArray 123 (0, 0)) :: L)
   (fun _ L' => ∃ es', es'.Perm es ∧ L' = (b, .cells (pre ++ (flR clE es' ++ rest)).toArray 123 (0, 0)) :: L) := by
 subst hA hM hB
 intro w0; refine Spec.enter5 Tryz.func176 rfl Tryz.ntmps176 (by decide) ?_
 repeat' (first|refine Ga0 fun _=>?_|refine Ga1 ?_|refine Ga2 (fun _=>?_) fun _=>?_|refine Ga3 ?_|fail)
 rw [show (mi : Int) - (lo : Int) = ((mi - lo : Nat) : Int) by omega, show (hi : Int) - (mi : Int) = ((hi - mi : Nat) : Int) by omega]
 refine CW.loop (fun κ ρ ds L' => ds = [] ∧ (∃ (i j : Nat) (st : List CE), L' = (b, .cells (pre ++ (flR clE st ++ rest)).toArray 123 (0, 0)) :: L ∧ st.Perm es ∧ 1 ≤ i ∧ lo + i ≤ mi ∧ 1 ≤ j ∧ mi + j ≤ hi ∧ κ = i + j ∧ Ev ρ 10 (.int .i64 (i : Int)) ∧ Ev ρ 11 (.int .i64 (j : Int))) ∧ Ev ρ 0 (.slice (some ⟨b, k, none⟩) m cap) ∧ Ev ρ 2 (.int .i64 mi) ∧ Ev ρ 4 fv) (mi - lo + (hi - mi))
  ⟨rfl, ⟨mi - lo, hi - mi, es, rfl, .refl _, by omega, by omega, by omega, by omega, rfl, ii, ii⟩, ii, ii, ii⟩ ?_
 rintro κ ρ ds L' ⟨rfl, ⟨i, j, st, rfl, hp, i1, i2, j1, j2, rfl, e10, e11⟩, e0, e2, e4⟩
 have hsl := hp.length_eq
 have hs' : ∀ e ∈ st, OkE e := fun e he => hs e (hp.mem_iff.1 he)
 by_cases hij : i = j
 ·subst hij
  repeat' (first|refine Ga0 fun _=>?_|refine Ga1 ?_|refine Ga2 (fun _=>?_) fun _=>?_|refine Ga3 ?_|fail)
  refine OW.call (jSwapR fv sf b k cap (mi - i) mi i _ _ _ pre rest st L (by omega) rfl rfl hk hs' m (by omega) hm (by omega) (by omega)) ?_
  rintro _ _ ⟨st', hp', rfl⟩
  repeat' (first|refine Ga0 fun _=>?_|refine Ga1 ?_|refine Ga2 (fun _=>?_) fun _=>?_|refine Ga3 ?_|fail)
  exact bodyK.nrm (Res.zero Tryz.results176) ⟨st', hp'.trans hp, rfl⟩
 ·by_cases hlt : j < i
  ·repeat' (first|refine Ga0 fun _=>?_|refine Ga1 ?_|refine Ga2 (fun _=>?_) fun _=>?_|refine Ga3 ?_|fail)
   refine OW.call (jSwapR fv sf b k cap (mi - i) mi j _ _ _ pre rest st L (by omega) rfl rfl hk hs' m (by omega) hm (by omega) (by omega)) ?_
   rintro _ _ ⟨st', hp', rfl⟩
   repeat' (first|refine Ga0 fun _=>?_|refine Ga1 ?_|refine Ga2 (fun _=>?_) fun _=>?_|refine Ga3 ?_|fail)
   rw [show (i : Int) - (j : Int) = ((i - j : Nat) : Int) by omega]
   exact ⟨i - j + j, by omega, rfl, ⟨i - j, j, st', rfl, hp'.trans hp, by omega, by omega, by omega, by omega, rfl, ii, ii⟩, ii, ii, ii⟩
  ·repeat' (first|refine Ga0 fun _=>?_|refine Ga1 ?_|refine Ga2 (fun _=>?_) fun _=>?_|refine Ga3 ?_|fail)
   refine OW.call (jSwapR fv sf b k cap (mi - i) (mi + j - i) i _ _ _ pre rest st L (by omega) (by omega) rfl hk hs' m (by omega) hm (by omega) (by omega)) ?_
   rintro _ _ ⟨st', hp', rfl⟩
   repeat' (first|refine Ga0 fun _=>?_|refine Ga1 ?_|refine Ga2 (fun _=>?_) fun _=>?_|refine Ga3 ?_|fail)
   rw [show (j : Int) - (i : Int) = ((j - i : Nat) : Int) by omega]
   exact ⟨i + (j - i), by omega, rfl, ⟨i, j - i, st', rfl, hp'.trans hp, by omega, by omega, by omega, by omega, rfl, ii, ii⟩, ii, ii, ii⟩
end Go.Proofs.YtmnhooepaemlcaaGreat
