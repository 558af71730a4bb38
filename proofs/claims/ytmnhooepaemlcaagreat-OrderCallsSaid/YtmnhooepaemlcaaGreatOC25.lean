/- OrderCalls: true for every input; arguments as before. Part 25. Conditions: none. -/
import Derived.Test.YtmnhooepaemlcaaGreatOC2
import Derived.Test.YtmnhooepaemlcaaGreatOC3
import Derived.Test.YtmnhooepaemlcaaGreatOC24
set_option linter.all false
namespace Go.Proofs.YtmnhooepaemlcaaGreat
open Go Go.Pw Go.Pw.Sc Go.Pw.Md Go.Pw.Jd
set_option maxRecDepth 100000
set_option maxHeartbeats 4000000
set_option synthInstance.maxHeartbeats 400000
set_option synthInstance.maxSize 2000
attribute [local irreducible] CW OW RW thenK blockK
attribute [local irreducible] scopeK loopK TRW ATW
theorem shr1 {x : Int} {h : Nat} (h0 : 0 ≤ x) (hh : 2 * (h : Int) ≤ x ∧ x < 2 * (h : Int) + 2) : ShN x 1 (h : Int) := ⟨by
 have := shrK (x := x) 1 (by decide)
 rw [show ((1 : Nat) : Int) = 1 from rfl] at this
 rw [this, show (((2 ^ 1 : Nat)) : Int) = 2 from rfl]
 omega⟩
theorem two_cut (st : List CE) (i j k : Nat) (pre rest : List Value) (hk : pre.length = k) (hi : i < st.length) (hj : j < st.length) (hs : ∀ e ∈ st, OkE e) :
  ∃ (c1 : Cl) (x1 b1 : Value) (c2 : Cl) (x2 b2 : Value), CutL (pre ++ (flR clE st ++ rest)) (k + i * 13) 13 (clC c1 x1 b1) ∧ CutL (pre ++ (flR clE st ++ rest)) (k + j * 13) 13 (clC c2 x2 b2) ∧
   Sng x1 ∧ Sng b1 ∧ Sng x2 ∧ Sng b2 ∧ (-1 ≤ c1.work ∧ c1.work ≤ 4096) ∧ (-1 ≤ c2.work ∧ c2.work ≤ 4096) :=
 have h1 := hs _ (List.getElem_mem hi)
 have h2 := hs _ (List.getElem_mem hj)
 ⟨st[i].1, st[i].2.1, st[i].2.2, st[j].1, st[j].2.1, st[j].2.2, flR_cut clE_len hk hi, flR_cut clE_len hk hj, h1.s1, h1.s2, h2.s1, h2.s2, ⟨h1.w1, h1.w2⟩, ⟨h2.w1, h2.w2⟩⟩
theorem jSym (fv : Value) (hf : CmpV fv) (sf : Sng fv) (b k cap : Nat) (pre rest : List Value) (L : Chunk) (hk : pre.length = k) (m : Nat) (hm : m ≤ 4096) : ∀ (D lo mi hi : Nat) (A M B : Int) (es : List CE), A = lo → M = mi → B = hi → (∀ e ∈ es, OkE e) → es.length = m → lo < mi → mi < hi → hi ≤ m → hi - lo ≤ D →
  Fn1 Tryz.prog 146 [.slice (some ⟨b, k, none⟩) m cap, .int .i64 A, .int .i64 M, .int .i64 B, fv] ((b, .cells (pre ++ (flR clE es ++ rest)).toArray 123 (0, 0)) :: L)
   (fun _ L' => ∃ es', es'.Perm es ∧ L' = (b, .cells (pre ++ (flR clE es' ++ rest)).toArray 123 (0, 0)) :: L)
 | 0, lo, mi, hi, _, _, _, _, _, _, _, _, _, h1, h2, _, hd => absurd hd (by omega)
 | D + 1, lo, mi, hi, A, M, B, es, hA, hM, hB, hs, hml, h1, h2, h3, hd => by
  subst hA hM hB
  have hrec := jSym fv hf sf b k cap pre rest L hk m hm D
  intro w0; refine Spec.enter5 Tryz.func146 rfl Tryz.ntmps146 (by decide) ?_
  have z5:DrP 5 [0,1,2,3,4,5,6,7,8,9,10]:=⟨⟨⟩⟩; have z11:DrC 11 [0, 1, 2, 3, 4, 5, 6, 7, 8, 10, 11, 12] [9, 13] 14 [15, 16, 17]:=⟨⟨⟩⟩; have z17:DrP 17 [0,1,2,3,4,5,6,7,8,9,10,11]:=⟨⟨⟩⟩; have z23:DrC 23 [0, 1, 2, 3, 4, 5, 6, 7, 8, 10, 11, 12] [9, 13] 14 [15, 16, 17]:=⟨⟨⟩⟩; have z35:DrP 35 [0,1,2,3,4,5,6,7,8,9,10,11,12,13]:=⟨⟨⟩⟩
  by_cases ca : (mi : Int) - (lo : Int) = 1
  ·repeat' (first|refine Gi0 fun _=>?_|refine Gi1 ?_|refine Gi2 (fun _=>?_) fun _=>?_|refine Gi3 ?_|fail)
   refine CW.loop (fun κ ρ ds L' => ds = [] ∧ (∃ (i j : Nat), L' = (b, .cells (pre ++ (flR clE es ++ rest)).toArray 123 (0, 0)) :: L ∧ mi ≤ i ∧ i ≤ j ∧ j ≤ hi ∧ κ = j - i ∧ Ev ρ 10 (.int .i64 (i : Int)) ∧ Ev ρ 11 (.int .i64 (j : Int))) ∧ Ev ρ 0 (.slice (some ⟨b, k, none⟩) m cap) ∧ Ev ρ 1 (.int .i64 lo) ∧ Ev ρ 4 fv) (hi - mi)
    ⟨rfl, ⟨mi, hi, rfl, by omega, by omega, by omega, rfl, ii, ii⟩, ii, ii, ii⟩ ?_
   rintro κ ρ ds L' ⟨rfl, ⟨i, j, rfl, i1, i2, i3, rfl, e10, e11⟩, e0, e1, e4⟩
   by_cases hlt : i < j
   ·obtain ⟨h, hh⟩ : ∃ h, h = (i + j) / 2 := ⟨_, rfl⟩
    have sh : ShN ((i : Int) + (j : Int)) 1 (h : Int) := shr1 (by omega) (by omega)
    obtain ⟨c1, x1, b1, c2, x2, b2, g1, g2, s1, s2, s3, s4, w1, w2⟩ := two_cut es h lo k pre rest hk (by omega) (by omega) hs
    repeat' (first|refine Gi0 fun _=>?_|refine Gi1 ?_|refine Gi2 (fun _=>?_) fun _=>?_|refine Gi3 ?_|fail)
    refine RW.callV1 (hf c1 c2 x1 b1 x2 b2 _ s1 s2 s3 s4 w1 w2) ?_
    rintro _ _ ⟨⟨z, rfl⟩, rfl⟩
    refine pinAll ?_
    by_cases hz : z < 0
    ·repeat' (first|refine Gi0 fun _=>?_|refine Gi1 ?_|refine Gi2 (fun _=>?_) fun _=>?_|refine Gi3 ?_|fail)
     exact ⟨j - (h + 1), by omega, rfl, ⟨h + 1, j, rfl, by omega, by omega, by omega, rfl, by rw [Int.natCast_add]; infer_instance, ii⟩, ii, ii, ii⟩
    ·repeat' (first|refine Gi0 fun _=>?_|refine Gi1 ?_|refine Gi2 (fun _=>?_) fun _=>?_|refine Gi3 ?_|fail)
     exact ⟨h - i, by omega, rfl, ⟨i, h, rfl, by omega, by omega, by omega, rfl, ii, ii⟩, ii, ii, ii⟩
   ·repeat' (first|refine Gi0 fun _=>?_|refine Gi1 ?_|refine Gi2 (fun _=>?_) fun _=>?_|refine Gi3 ?_|fail)
    refine CW.loop (fun κ ρ ds L' => ds = [] ∧ (∃ (q : Nat) (st : List CE), L' = (b, .cells (pre ++ (flR clE st ++ rest)).toArray 123 (0, 0)) :: L ∧ st.Perm es ∧ q ≤ i ∧ κ = i - q ∧ Ev ρ 13 (.int .i64 (q : Int))) ∧ Ev ρ 0 (.slice (some ⟨b, k, none⟩) m cap) ∧ Ev ρ 10 (.int .i64 (i : Int))) (i - lo)
     ⟨rfl, ⟨lo, es, rfl, .refl _, by omega, rfl, ii⟩, ii, ii⟩ ?_
    clear e0 e1 e4 e10 e11
    rintro κ ρ ds L' ⟨rfl, ⟨q, st, rfl, hp, q1, rfl, e13⟩, e0, e10⟩
    by_cases hq : (q : Int) < (i : Int) - 1
    ·have hsl := hp.length_eq
     obtain ⟨c1, x1, b1, c2, x2, b2, stm, st', g1, g2, g3, g4, g5, s1, s2, s3, s4, w1, w2⟩ := swapAll st q (q + 1) k pre rest hk (by omega) (by omega) (fun e he => hs e (hp.mem_iff.1 he))
     have t1 : ToN ((q : Int) + 1) (q + 1) := ⟨by omega⟩
     repeat' (first|refine Gi0 fun _=>?_|refine Gi1 ?_|refine Gi2 (fun _=>?_) fun _=>?_|refine Gi3 ?_|fail)
     exact ⟨i - (q + 1), by omega, rfl, ⟨q + 1, st', rfl, g5.trans hp, by omega, rfl, by rw [Int.natCast_add]; infer_instance⟩, ii, ii⟩
    ·repeat' (first|refine Gi0 fun _=>?_|refine Gi1 ?_|refine Gi2 (fun _=>?_) fun _=>?_|refine Gi3 ?_|fail)
     exact bodyK.ret (Res.zero Tryz.results146) ⟨st, hp, rfl⟩
  by_cases cb : (hi : Int) - (mi : Int) = 1
  ·repeat' (first|refine Gi0 fun _=>?_|refine Gi1 ?_|refine Gi2 (fun _=>?_) fun _=>?_|refine Gi3 ?_|fail)
   refine CW.loop (fun κ ρ ds L' => ds = [] ∧ (∃ (i j : Nat), L' = (b, .cells (pre ++ (flR clE es ++ rest)).toArray 123 (0, 0)) :: L ∧ lo ≤ i ∧ i ≤ j ∧ j ≤ mi ∧ κ = j - i ∧ Ev ρ 14 (.int .i64 (i : Int)) ∧ Ev ρ 15 (.int .i64 (j : Int))) ∧ Ev ρ 0 (.slice (some ⟨b, k, none⟩) m cap) ∧ Ev ρ 2 (.int .i64 mi) ∧ Ev ρ 4 fv) (mi - lo)
    ⟨rfl, ⟨lo, mi, rfl, by omega, by omega, by omega, rfl, ii, ii⟩, ii, ii, ii⟩ ?_
   rintro κ ρ ds L' ⟨rfl, ⟨i, j, rfl, i1, i2, i3, rfl, e14, e15⟩, e0, e2, e4⟩
   by_cases hlt : i < j
   ·obtain ⟨h, hh⟩ : ∃ h, h = (i + j) / 2 := ⟨_, rfl⟩
    have sh : ShN ((i : Int) + (j : Int)) 1 (h : Int) := shr1 (by omega) (by omega)
    obtain ⟨c1, x1, b1, c2, x2, b2, g1, g2, s1, s2, s3, s4, w1, w2⟩ := two_cut es mi h k pre rest hk (by omega) (by omega) hs
    repeat' (first|refine Gi0 fun _=>?_|refine Gi1 ?_|refine Gi2 (fun _=>?_) fun _=>?_|refine Gi3 ?_|fail)
    refine RW.callV1 (hf c1 c2 x1 b1 x2 b2 _ s1 s2 s3 s4 w1 w2) ?_
    rintro _ _ ⟨⟨z, rfl⟩, rfl⟩
    refine pinAll ?_
    by_cases hz : z < 0
    ·repeat' (first|refine Gi0 fun _=>?_|refine Gi1 ?_|refine Gi2 (fun _=>?_) fun _=>?_|refine Gi3 ?_|fail)
     exact ⟨h - i, by omega, rfl, ⟨i, h, rfl, by omega, by omega, by omega, rfl, ii, ii⟩, ii, ii, ii⟩
    ·repeat' (first|refine Gi0 fun _=>?_|refine Gi1 ?_|refine Gi2 (fun _=>?_) fun _=>?_|refine Gi3 ?_|fail)
     exact ⟨j - (h + 1), by omega, rfl, ⟨h + 1, j, rfl, by omega, by omega, by omega, rfl, by rw [Int.natCast_add]; infer_instance, ii⟩, ii, ii, ii⟩
   ·repeat' (first|refine Gi0 fun _=>?_|refine Gi1 ?_|refine Gi2 (fun _=>?_) fun _=>?_|refine Gi3 ?_|fail)
    refine CW.loop (fun κ ρ ds L' => ds = [] ∧ (∃ (q : Nat) (st : List CE), L' = (b, .cells (pre ++ (flR clE st ++ rest)).toArray 123 (0, 0)) :: L ∧ st.Perm es ∧ q ≤ mi ∧ q = κ ∧ Ev ρ 17 (.int .i64 (q : Int))) ∧ Ev ρ 0 (.slice (some ⟨b, k, none⟩) m cap) ∧ Ev ρ 14 (.int .i64 (i : Int))) mi
     ⟨rfl, ⟨mi, es, rfl, .refl _, by omega, rfl, ii⟩, ii, ii⟩ ?_
    clear e0 e2 e4 e14 e15
    rintro κ ρ ds L' ⟨rfl, ⟨q, st, rfl, hp, q1, rfl, e17⟩, e0, e14⟩
    by_cases hq : i < q
    ·have hsl := hp.length_eq
     obtain ⟨q, rfl⟩ : ∃ q', q = q' + 1 := ⟨q - 1, by omega⟩
     obtain ⟨c1, x1, b1, c2, x2, b2, stm, st', g1, g2, g3, g4, g5, s1, s2, s3, s4, w1, w2⟩ := swapAll st (q + 1) q k pre rest hk (by omega) (by omega) (fun e he => hs e (hp.mem_iff.1 he))
     have t1 : ToN (((q + 1 : Nat) : Int) - 1) q := ⟨by omega⟩
     repeat' (first|refine Gi0 fun _=>?_|refine Gi1 ?_|refine Gi2 (fun _=>?_) fun _=>?_|refine Gi3 ?_|fail)
     rw [show ((q + 1 : Nat) : Int) - 1 = (q : Int) by omega]
     exact ⟨q, by omega, rfl, ⟨q, st', rfl, g5.trans hp, by omega, rfl, ii⟩, ii, ii⟩
    ·repeat' (first|refine Gi0 fun _=>?_|refine Gi1 ?_|refine Gi2 (fun _=>?_) fun _=>?_|refine Gi3 ?_|fail)
     exact bodyK.ret (Res.zero Tryz.results146) ⟨st, hp, rfl⟩
  obtain ⟨h, hh⟩ : ∃ h, h = (lo + hi) / 2 := ⟨_, rfl⟩
  have sh : ShN ((lo : Int) + (hi : Int)) 1 (h : Int) := shr1 (by omega) (by omega)
  by_cases cc : h < mi
  ·repeat' (first|refine Gi0 fun _=>?_|refine Gi1 ?_|refine Gi2 (fun _=>?_) fun _=>?_|refine Gi3 ?_|fail)
   rw [show (h : Int) + (mi : Int) - (hi : Int) = ((h + mi - hi : Nat) : Int) by omega]
   refine CW.cutB (fun ρ ds L' => ds = [] ∧ (∃ s : Nat, L' = (b, .cells (pre ++ (flR clE es ++ rest)).toArray 123 (0, 0)) :: L ∧ lo ≤ s ∧ h + mi ≤ hi + s ∧ s ≤ h + mi ∧ Ev ρ 20 (.int .i64 (s : Int))) ∧ Ev ρ 19 (.int .i64 ((h : Int) + (mi : Int))) ∧ Ev ρ 0 (.slice (some ⟨b, k, none⟩) m cap) ∧ Ev ρ 1 (.int .i64 lo) ∧ Ev ρ 2 (.int .i64 mi) ∧ Ev ρ 3 (.int .i64 hi) ∧ Ev ρ 4 fv ∧ Ev ρ 18 (.int .i64 (h : Int))) ?_ ?_
   rotate_left
   ·intro N0 hN0
    refine CW.loop (fun κ ρ ds L' => ds = [] ∧ (∃ (s r : Nat), L' = (b, .cells (pre ++ (flR clE es ++ rest)).toArray 123 (0, 0)) :: L ∧ (h + mi - hi) ≤ s ∧ s ≤ r ∧ r ≤ h ∧ κ = r - s ∧ Ev ρ 20 (.int .i64 (s : Int)) ∧ Ev ρ 21 (.int .i64 (r : Int))) ∧ Ev ρ 22 (.int .i64 ((h : Int) + (mi : Int) - 1)) ∧ Ev ρ 19 (.int .i64 ((h : Int) + (mi : Int))) ∧ Ev ρ 0 (.slice (some ⟨b, k, none⟩) m cap) ∧ Ev ρ 1 (.int .i64 lo) ∧ Ev ρ 2 (.int .i64 mi) ∧ Ev ρ 3 (.int .i64 hi) ∧ Ev ρ 4 fv ∧ Ev ρ 18 (.int .i64 (h : Int))) (h - (h + mi - hi))
     ⟨rfl, ⟨(h + mi - hi), h, rfl, by omega, by omega, by omega, rfl, ii, ii⟩, ii, ii, ii, ii, ii, ii, ii, ii⟩ ?_
    rintro κ ρ ds L' ⟨rfl, ⟨s, r, rfl, i1, i2, i3, rfl, e20, e21⟩, e22, e19, e0, e1, e2, e3, e4, e18⟩
    by_cases hlt : s < r
    ·obtain ⟨c, hc⟩ : ∃ c, c = (s + r) / 2 := ⟨_, rfl⟩
     have sh2 : ShN ((s : Int) + (r : Int)) 1 (c : Int) := shr1 (by omega) (by omega)
     have t1 : ToN ((h : Int) + (mi : Int) - 1 - (c : Int)) (h + mi - 1 - c) := ⟨by omega⟩
     obtain ⟨c1, x1, b1, c2, x2, b2, g1, g2, s1, s2, s3, s4, w1, w2⟩ := two_cut es (h + mi - 1 - c) c k pre rest hk (by omega) (by omega) hs
     repeat' (first|refine Gi0 fun _=>?_|refine Gi1 ?_|refine Gi2 (fun _=>?_) fun _=>?_|refine Gi3 ?_|fail)
     refine RW.callV1 (hf c1 c2 x1 b1 x2 b2 _ s1 s2 s3 s4 w1 w2) ?_
     rintro _ _ ⟨⟨z, rfl⟩, rfl⟩
     refine pinAll ?_
     by_cases hz : z < 0
     ·repeat' (first|refine Gi0 fun _=>?_|refine Gi1 ?_|refine Gi2 (fun _=>?_) fun _=>?_|refine Gi3 ?_|fail)
      exact ⟨c - s, by omega, rfl, ⟨s, c, rfl, by omega, by omega, by omega, rfl, ii, ii⟩, ii, ii, ii, ii, ii, ii, ii, ii⟩
     ·repeat' (first|refine Gi0 fun _=>?_|refine Gi1 ?_|refine Gi2 (fun _=>?_) fun _=>?_|refine Gi3 ?_|fail)
      exact ⟨r - (c + 1), by omega, rfl, ⟨c + 1, r, rfl, by omega, by omega, by omega, rfl, by rw [Int.natCast_add]; infer_instance, ii⟩, ii, ii, ii, ii, ii, ii, ii, ii⟩
    ·repeat' (first|refine Gi0 fun _=>?_|refine Gi1 ?_|refine Gi2 (fun _=>?_) fun _=>?_|refine Gi3 ?_|fail)
     exact hN0 _ _ _ ⟨rfl, ⟨s, rfl, by omega, by omega, by omega, ii⟩, ii, ii, ii, ii, ii, ii, ii⟩
   rintro ρ ds L' ⟨rfl, ⟨s, rfl, f1, f2, f3, e20⟩, e19, e0, e1, e2, e3, e4, e18⟩
   refine CW.seq ?_
   refine CW.cutK (fun ρ ds L' => ds = [] ∧ L' = (b, .cells (pre ++ (flR clE es ++ rest)).toArray 123 (0, 0)) :: L ∧ Ev ρ 20 (.int .i64 (s : Int)) ∧ Ev ρ 24 (.int .i64 ((h : Int) + (mi : Int) - (s : Int))) ∧ Ev ρ 0 (.slice (some ⟨b, k, none⟩) m cap) ∧ Ev ρ 1 (.int .i64 lo) ∧ Ev ρ 2 (.int .i64 mi) ∧ Ev ρ 3 (.int .i64 hi) ∧ Ev ρ 4 fv ∧ Ev ρ 18 (.int .i64 (h : Int))) ?_ ?_
   rotate_left
   ·intro N0 hN0
    repeat' (first|refine Gi0 fun _=>?_|refine Gi1 ?_|refine Gi2 (fun _=>?_) fun _=>?_|refine Gi3 ?_|fail)
    exact hN0 _ _ _ ⟨rfl, rfl, ii, ii, ii, ii, ii, ii, ii, ii⟩
   clear e0 e1 e2 e3 e4 e18 e19 e20
   rintro ρ ds L' ⟨rfl, rfl, e20, e24, e0, e1, e2, e3, e4, e18⟩
   refine CW.seq ?_
   refine CW.cutK (fun ρ ds L' => ds = [] ∧ (∃ st : List CE, L' = (b, .cells (pre ++ (flR clE st ++ rest)).toArray 123 (0, 0)) :: L ∧ st.Perm es) ∧ Ev ρ 20 (.int .i64 (s : Int)) ∧ Ev ρ 24 (.int .i64 ((h : Int) + (mi : Int) - (s : Int))) ∧ Ev ρ 0 (.slice (some ⟨b, k, none⟩) m cap) ∧ Ev ρ 1 (.int .i64 lo) ∧ Ev ρ 2 (.int .i64 mi) ∧ Ev ρ 3 (.int .i64 hi) ∧ Ev ρ 4 fv ∧ Ev ρ 18 (.int .i64 (h : Int))) ?_ ?_
   rotate_left
   ·intro N0 hN0
    by_cases d1 : s < mi
    ·by_cases d2 : (mi : Int) < (h : Int) + (mi : Int) - (s : Int)
     ·repeat' (first|refine Gi0 fun _=>?_|refine Gi1 ?_|refine Gi2 (fun _=>?_) fun _=>?_|refine Gi3 ?_|fail)
      refine OW.call (jRot fv sf b k cap s mi (h + mi - s) _ _ _ pre rest es L rfl rfl (by omega) hk hs m hml hm (by omega) (by omega) (by omega)) ?_
      rintro _ _ ⟨st, hp, rfl⟩
      repeat' (first|refine Gi0 fun _=>?_|refine Gi1 ?_|refine Gi2 (fun _=>?_) fun _=>?_|refine Gi3 ?_|fail)
      exact hN0 _ _ _ ⟨rfl, ⟨st, rfl, hp⟩, ii, ii, ii, ii, ii, ii, ii, ii⟩
     ·first
       | (exfalso; omega)
       | skip
      repeat' (first|refine Gi0 fun _=>?_|refine Gi1 ?_|refine Gi2 (fun _=>?_) fun _=>?_|refine Gi3 ?_|fail)
      all_goals exact hN0 _ _ _ ⟨rfl, ⟨es, rfl, .refl _⟩, ii, ii, ii, ii, ii, ii, ii, ii⟩
    ·repeat' (first|refine Gi0 fun _=>?_|refine Gi1 ?_|refine Gi2 (fun _=>?_) fun _=>?_|refine Gi3 ?_|fail)
     exact hN0 _ _ _ ⟨rfl, ⟨es, rfl, .refl _⟩, ii, ii, ii, ii, ii, ii, ii, ii⟩
   clear e0 e1 e2 e3 e4 e18 e20 e24
   rintro ρ ds L' ⟨rfl, ⟨st, rfl, hp⟩, e20, e24, e0, e1, e2, e3, e4, e18⟩
   have hsl := hp.length_eq
   have hs' : ∀ e ∈ st, OkE e := fun e he => hs e (hp.mem_iff.1 he)
   refine CW.seq ?_
   refine CW.cutK (fun ρ ds L' => ds = [] ∧ (∃ st : List CE, L' = (b, .cells (pre ++ (flR clE st ++ rest)).toArray 123 (0, 0)) :: L ∧ st.Perm es) ∧ Ev ρ 20 (.int .i64 (s : Int)) ∧ Ev ρ 24 (.int .i64 ((h : Int) + (mi : Int) - (s : Int))) ∧ Ev ρ 0 (.slice (some ⟨b, k, none⟩) m cap) ∧ Ev ρ 1 (.int .i64 lo) ∧ Ev ρ 2 (.int .i64 mi) ∧ Ev ρ 3 (.int .i64 hi) ∧ Ev ρ 4 fv ∧ Ev ρ 18 (.int .i64 (h : Int))) ?_ ?_
   rotate_left
   ·intro N0 hN0
    by_cases d1 : lo < s
    ·by_cases d2 : s < h
     ·repeat' (first|refine Gi0 fun _=>?_|refine Gi1 ?_|refine Gi2 (fun _=>?_) fun _=>?_|refine Gi3 ?_|fail)
      refine OW.call (hrec lo s h _ _ _ st rfl rfl rfl hs' (by omega) (by omega) (by omega) (by omega) (by omega)) ?_
      rintro _ _ ⟨st2, hp2, rfl⟩
      repeat' (first|refine Gi0 fun _=>?_|refine Gi1 ?_|refine Gi2 (fun _=>?_) fun _=>?_|refine Gi3 ?_|fail)
      exact hN0 _ _ _ ⟨rfl, ⟨st2, rfl, hp2.trans hp⟩, ii, ii, ii, ii, ii, ii, ii, ii⟩
     ·repeat' (first|refine Gi0 fun _=>?_|refine Gi1 ?_|refine Gi2 (fun _=>?_) fun _=>?_|refine Gi3 ?_|fail)
      exact hN0 _ _ _ ⟨rfl, ⟨st, rfl, hp⟩, ii, ii, ii, ii, ii, ii, ii, ii⟩
    ·repeat' (first|refine Gi0 fun _=>?_|refine Gi1 ?_|refine Gi2 (fun _=>?_) fun _=>?_|refine Gi3 ?_|fail)
     exact hN0 _ _ _ ⟨rfl, ⟨st, rfl, hp⟩, ii, ii, ii, ii, ii, ii, ii, ii⟩
   clear e0 e1 e2 e3 e4 e18 e20 e24 hp hsl hs'
   rintro ρ ds L' ⟨rfl, ⟨st, rfl, hp⟩, e20, e24, e0, e1, e2, e3, e4, e18⟩
   have hsl := hp.length_eq
   have hs' : ∀ e ∈ st, OkE e := fun e he => hs e (hp.mem_iff.1 he)
   by_cases d1 : (h : Int) < (h : Int) + (mi : Int) - (s : Int)
   ·by_cases d2 : (h : Int) + (mi : Int) - (s : Int) < (hi : Int)
    ·repeat' (first|refine Gi0 fun _=>?_|refine Gi1 ?_|refine Gi2 (fun _=>?_) fun _=>?_|refine Gi3 ?_|fail)
     refine OW.call (hrec h (h + mi - s) hi _ _ _ st rfl (by omega) rfl hs' (by omega) (by omega) (by omega) (by omega) (by omega)) ?_
     rintro _ _ ⟨st2, hp2, rfl⟩
     repeat' (first|refine Gi0 fun _=>?_|refine Gi1 ?_|refine Gi2 (fun _=>?_) fun _=>?_|refine Gi3 ?_|fail)
     exact bodyK.nrm (Res.zero Tryz.results146) ⟨st2, hp2.trans hp, rfl⟩
    ·repeat' (first|refine Gi0 fun _=>?_|refine Gi1 ?_|refine Gi2 (fun _=>?_) fun _=>?_|refine Gi3 ?_|fail)
     exact bodyK.nrm (Res.zero Tryz.results146) ⟨st, hp, rfl⟩
   ·repeat' (first|refine Gi0 fun _=>?_|refine Gi1 ?_|refine Gi2 (fun _=>?_) fun _=>?_|refine Gi3 ?_|fail)
    exact bodyK.nrm (Res.zero Tryz.results146) ⟨st, hp, rfl⟩
  ·repeat' (first|refine Gi0 fun _=>?_|refine Gi1 ?_|refine Gi2 (fun _=>?_) fun _=>?_|refine Gi3 ?_|fail)
   refine CW.cutB (fun ρ ds L' => ds = [] ∧ (∃ s : Nat, L' = (b, .cells (pre ++ (flR clE es ++ rest)).toArray 123 (0, 0)) :: L ∧ lo ≤ s ∧ h + mi ≤ hi + s ∧ s ≤ h + mi ∧ Ev ρ 20 (.int .i64 (s : Int))) ∧ Ev ρ 19 (.int .i64 ((h : Int) + (mi : Int))) ∧ Ev ρ 0 (.slice (some ⟨b, k, none⟩) m cap) ∧ Ev ρ 1 (.int .i64 lo) ∧ Ev ρ 2 (.int .i64 mi) ∧ Ev ρ 3 (.int .i64 hi) ∧ Ev ρ 4 fv ∧ Ev ρ 18 (.int .i64 (h : Int))) ?_ ?_
   rotate_left
   ·intro N0 hN0
    refine CW.loop (fun κ ρ ds L' => ds = [] ∧ (∃ (s r : Nat), L' = (b, .cells (pre ++ (flR clE es ++ rest)).toArray 123 (0, 0)) :: L ∧ lo ≤ s ∧ s ≤ r ∧ r ≤ mi ∧ κ = r - s ∧ Ev ρ 20 (.int .i64 (s : Int)) ∧ Ev ρ 21 (.int .i64 (r : Int))) ∧ Ev ρ 22 (.int .i64 ((h : Int) + (mi : Int) - 1)) ∧ Ev ρ 19 (.int .i64 ((h : Int) + (mi : Int))) ∧ Ev ρ 0 (.slice (some ⟨b, k, none⟩) m cap) ∧ Ev ρ 1 (.int .i64 lo) ∧ Ev ρ 2 (.int .i64 mi) ∧ Ev ρ 3 (.int .i64 hi) ∧ Ev ρ 4 fv ∧ Ev ρ 18 (.int .i64 (h : Int))) (mi - lo)
     ⟨rfl, ⟨lo, mi, rfl, by omega, by omega, by omega, rfl, ii, ii⟩, ii, ii, ii, ii, ii, ii, ii, ii⟩ ?_
    rintro κ ρ ds L' ⟨rfl, ⟨s, r, rfl, i1, i2, i3, rfl, e20, e21⟩, e22, e19, e0, e1, e2, e3, e4, e18⟩
    by_cases hlt : s < r
    ·obtain ⟨c, hc⟩ : ∃ c, c = (s + r) / 2 := ⟨_, rfl⟩
     have sh2 : ShN ((s : Int) + (r : Int)) 1 (c : Int) := shr1 (by omega) (by omega)
     have t1 : ToN ((h : Int) + (mi : Int) - 1 - (c : Int)) (h + mi - 1 - c) := ⟨by omega⟩
     obtain ⟨c1, x1, b1, c2, x2, b2, g1, g2, s1, s2, s3, s4, w1, w2⟩ := two_cut es (h + mi - 1 - c) c k pre rest hk (by omega) (by omega) hs
     repeat' (first|refine Gi0 fun _=>?_|refine Gi1 ?_|refine Gi2 (fun _=>?_) fun _=>?_|refine Gi3 ?_|fail)
     refine RW.callV1 (hf c1 c2 x1 b1 x2 b2 _ s1 s2 s3 s4 w1 w2) ?_
     rintro _ _ ⟨⟨z, rfl⟩, rfl⟩
     refine pinAll ?_
     by_cases hz : z < 0
     ·repeat' (first|refine Gi0 fun _=>?_|refine Gi1 ?_|refine Gi2 (fun _=>?_) fun _=>?_|refine Gi3 ?_|fail)
      exact ⟨c - s, by omega, rfl, ⟨s, c, rfl, by omega, by omega, by omega, rfl, ii, ii⟩, ii, ii, ii, ii, ii, ii, ii, ii⟩
     ·repeat' (first|refine Gi0 fun _=>?_|refine Gi1 ?_|refine Gi2 (fun _=>?_) fun _=>?_|refine Gi3 ?_|fail)
      exact ⟨r - (c + 1), by omega, rfl, ⟨c + 1, r, rfl, by omega, by omega, by omega, rfl, by rw [Int.natCast_add]; infer_instance, ii⟩, ii, ii, ii, ii, ii, ii, ii, ii⟩
    ·repeat' (first|refine Gi0 fun _=>?_|refine Gi1 ?_|refine Gi2 (fun _=>?_) fun _=>?_|refine Gi3 ?_|fail)
     exact hN0 _ _ _ ⟨rfl, ⟨s, rfl, by omega, by omega, by omega, ii⟩, ii, ii, ii, ii, ii, ii, ii⟩
   rintro ρ ds L' ⟨rfl, ⟨s, rfl, f1, f2, f3, e20⟩, e19, e0, e1, e2, e3, e4, e18⟩
   refine CW.seq ?_
   refine CW.cutK (fun ρ ds L' => ds = [] ∧ L' = (b, .cells (pre ++ (flR clE es ++ rest)).toArray 123 (0, 0)) :: L ∧ Ev ρ 20 (.int .i64 (s : Int)) ∧ Ev ρ 24 (.int .i64 ((h : Int) + (mi : Int) - (s : Int))) ∧ Ev ρ 0 (.slice (some ⟨b, k, none⟩) m cap) ∧ Ev ρ 1 (.int .i64 lo) ∧ Ev ρ 2 (.int .i64 mi) ∧ Ev ρ 3 (.int .i64 hi) ∧ Ev ρ 4 fv ∧ Ev ρ 18 (.int .i64 (h : Int))) ?_ ?_
   rotate_left
   ·intro N0 hN0
    repeat' (first|refine Gi0 fun _=>?_|refine Gi1 ?_|refine Gi2 (fun _=>?_) fun _=>?_|refine Gi3 ?_|fail)
    exact hN0 _ _ _ ⟨rfl, rfl, ii, ii, ii, ii, ii, ii, ii, ii⟩
   clear e0 e1 e2 e3 e4 e18 e19 e20
   rintro ρ ds L' ⟨rfl, rfl, e20, e24, e0, e1, e2, e3, e4, e18⟩
   refine CW.seq ?_
   refine CW.cutK (fun ρ ds L' => ds = [] ∧ (∃ st : List CE, L' = (b, .cells (pre ++ (flR clE st ++ rest)).toArray 123 (0, 0)) :: L ∧ st.Perm es) ∧ Ev ρ 20 (.int .i64 (s : Int)) ∧ Ev ρ 24 (.int .i64 ((h : Int) + (mi : Int) - (s : Int))) ∧ Ev ρ 0 (.slice (some ⟨b, k, none⟩) m cap) ∧ Ev ρ 1 (.int .i64 lo) ∧ Ev ρ 2 (.int .i64 mi) ∧ Ev ρ 3 (.int .i64 hi) ∧ Ev ρ 4 fv ∧ Ev ρ 18 (.int .i64 (h : Int))) ?_ ?_
   rotate_left
   ·intro N0 hN0
    by_cases d1 : s < mi
    ·by_cases d2 : (mi : Int) < (h : Int) + (mi : Int) - (s : Int)
     ·repeat' (first|refine Gi0 fun _=>?_|refine Gi1 ?_|refine Gi2 (fun _=>?_) fun _=>?_|refine Gi3 ?_|fail)
      refine OW.call (jRot fv sf b k cap s mi (h + mi - s) _ _ _ pre rest es L rfl rfl (by omega) hk hs m hml hm (by omega) (by omega) (by omega)) ?_
      rintro _ _ ⟨st, hp, rfl⟩
      repeat' (first|refine Gi0 fun _=>?_|refine Gi1 ?_|refine Gi2 (fun _=>?_) fun _=>?_|refine Gi3 ?_|fail)
      exact hN0 _ _ _ ⟨rfl, ⟨st, rfl, hp⟩, ii, ii, ii, ii, ii, ii, ii, ii⟩
     ·first
       | (exfalso; omega)
       | skip
      repeat' (first|refine Gi0 fun _=>?_|refine Gi1 ?_|refine Gi2 (fun _=>?_) fun _=>?_|refine Gi3 ?_|fail)
      all_goals exact hN0 _ _ _ ⟨rfl, ⟨es, rfl, .refl _⟩, ii, ii, ii, ii, ii, ii, ii, ii⟩
    ·repeat' (first|refine Gi0 fun _=>?_|refine Gi1 ?_|refine Gi2 (fun _=>?_) fun _=>?_|refine Gi3 ?_|fail)
     exact hN0 _ _ _ ⟨rfl, ⟨es, rfl, .refl _⟩, ii, ii, ii, ii, ii, ii, ii, ii⟩
   clear e0 e1 e2 e3 e4 e18 e20 e24
   rintro ρ ds L' ⟨rfl, ⟨st, rfl, hp⟩, e20, e24, e0, e1, e2, e3, e4, e18⟩
   have hsl := hp.length_eq
   have hs' : ∀ e ∈ st, OkE e := fun e he => hs e (hp.mem_iff.1 he)
   refine CW.seq ?_
   refine CW.cutK (fun ρ ds L' => ds = [] ∧ (∃ st : List CE, L' = (b, .cells (pre ++ (flR clE st ++ rest)).toArray 123 (0, 0)) :: L ∧ st.Perm es) ∧ Ev ρ 20 (.int .i64 (s : Int)) ∧ Ev ρ 24 (.int .i64 ((h : Int) + (mi : Int) - (s : Int))) ∧ Ev ρ 0 (.slice (some ⟨b, k, none⟩) m cap) ∧ Ev ρ 1 (.int .i64 lo) ∧ Ev ρ 2 (.int .i64 mi) ∧ Ev ρ 3 (.int .i64 hi) ∧ Ev ρ 4 fv ∧ Ev ρ 18 (.int .i64 (h : Int))) ?_ ?_
   rotate_left
   ·intro N0 hN0
    by_cases d1 : lo < s
    ·by_cases d2 : s < h
     ·repeat' (first|refine Gi0 fun _=>?_|refine Gi1 ?_|refine Gi2 (fun _=>?_) fun _=>?_|refine Gi3 ?_|fail)
      refine OW.call (hrec lo s h _ _ _ st rfl rfl rfl hs' (by omega) (by omega) (by omega) (by omega) (by omega)) ?_
      rintro _ _ ⟨st2, hp2, rfl⟩
      repeat' (first|refine Gi0 fun _=>?_|refine Gi1 ?_|refine Gi2 (fun _=>?_) fun _=>?_|refine Gi3 ?_|fail)
      exact hN0 _ _ _ ⟨rfl, ⟨st2, rfl, hp2.trans hp⟩, ii, ii, ii, ii, ii, ii, ii, ii⟩
     ·repeat' (first|refine Gi0 fun _=>?_|refine Gi1 ?_|refine Gi2 (fun _=>?_) fun _=>?_|refine Gi3 ?_|fail)
      exact hN0 _ _ _ ⟨rfl, ⟨st, rfl, hp⟩, ii, ii, ii, ii, ii, ii, ii, ii⟩
    ·repeat' (first|refine Gi0 fun _=>?_|refine Gi1 ?_|refine Gi2 (fun _=>?_) fun _=>?_|refine Gi3 ?_|fail)
     exact hN0 _ _ _ ⟨rfl, ⟨st, rfl, hp⟩, ii, ii, ii, ii, ii, ii, ii, ii⟩
   clear e0 e1 e2 e3 e4 e18 e20 e24 hp hsl hs'
   rintro ρ ds L' ⟨rfl, ⟨st, rfl, hp⟩, e20, e24, e0, e1, e2, e3, e4, e18⟩
   have hsl := hp.length_eq
   have hs' : ∀ e ∈ st, OkE e := fun e he => hs e (hp.mem_iff.1 he)
   by_cases d1 : (h : Int) < (h : Int) + (mi : Int) - (s : Int)
   ·by_cases d2 : (h : Int) + (mi : Int) - (s : Int) < (hi : Int)
    ·repeat' (first|refine Gi0 fun _=>?_|refine Gi1 ?_|refine Gi2 (fun _=>?_) fun _=>?_|refine Gi3 ?_|fail)
     refine OW.call (hrec h (h + mi - s) hi _ _ _ st rfl (by omega) rfl hs' (by omega) (by omega) (by omega) (by omega) (by omega)) ?_
     rintro _ _ ⟨st2, hp2, rfl⟩
     repeat' (first|refine Gi0 fun _=>?_|refine Gi1 ?_|refine Gi2 (fun _=>?_) fun _=>?_|refine Gi3 ?_|fail)
     exact bodyK.nrm (Res.zero Tryz.results146) ⟨st2, hp2.trans hp, rfl⟩
    ·repeat' (first|refine Gi0 fun _=>?_|refine Gi1 ?_|refine Gi2 (fun _=>?_) fun _=>?_|refine Gi3 ?_|fail)
     exact bodyK.nrm (Res.zero Tryz.results146) ⟨st, hp, rfl⟩
   ·repeat' (first|refine Gi0 fun _=>?_|refine Gi1 ?_|refine Gi2 (fun _=>?_) fun _=>?_|refine Gi3 ?_|fail)
    exact bodyK.nrm (Res.zero Tryz.results146) ⟨st, hp, rfl⟩
end Go.Proofs.YtmnhooepaemlcaaGreat
