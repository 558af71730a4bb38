/- OrderCalls: true for every input; arguments as before. Part 8. Conditions: none. -/
import Derived.Test.YtmnhooepaemlcaaGreatOC2
import Derived.Test.YtmnhooepaemlcaaGreatOC3
import Derived.Test.YtmnhooepaemlcaaGreatOC7
set_option linter.all false
namespace Go.Proofs.YtmnhooepaemlcaaGreat
open Go Go.Pw Go.Pw.Sc Go.Pw.Md Go.Pw.Or
set_option maxRecDepth 100000
set_option maxHeartbeats 4000000
set_option synthInstance.maxHeartbeats 400000
set_option synthInstance.maxSize 2000
attribute [local irreducible] CW OW RW thenK blockK
attribute [local irreducible] scopeK loopK TRW ATW
theorem oAhead (a b : Td) (v1 v2 v3 v4 : Value) (L : Chunk) [s1 : Sng v1] [s2 : Sng v2] [s3 : Sng v3] [s4 : Sng v4] : Fn1 Tryz.prog 172 [.agg (tdC a v1 v2).toArray, .agg (tdC b v3 v4).toArray] L (fun u L' => u = .bool (decide (aheadP a b)) ∧ L = L') := by
 intro w0; refine Spec.enter2 Tryz.func172 rfl Tryz.ntmps172 (by decide) ?_
 by_cases h : a.to_ < b.from_
 ·rw [show decide (aheadP a b) = true from decide_eq_true h]
  repeat' (first|refine Ga0 fun _=>?_|refine Ga1 ?_|refine Ga2 (fun _=>?_) fun _=>?_|refine Ga3 ?_|refine Ga4 fun _=>?_|fail)
  exact bodyK.retD L (Res.one Tryz.results172) ⟨rfl, rfl⟩
 ·rw [show decide (aheadP a b) = false from decide_eq_false h]
  repeat' (first|refine Ga0 fun _=>?_|refine Ga1 ?_|refine Ga2 (fun _=>?_) fun _=>?_|refine Ga3 ?_|refine Ga4 fun _=>?_|fail)
  exact bodyK.retD L (Res.one Tryz.results172) ⟨rfl, rfl⟩
theorem oCall (x : Td) (v1 v2 : Value) (L : Chunk) [s1 : Sng v1] [s2 : Sng v2] : Fn1 Tryz.prog 168 [.agg (tdC x v1 v2).toArray] L (fun u L' => u = .bool (decide (callOk x)) ∧ L = L') := by
 have no : ¬ callOk x → decide (callOk x) = false := fun h => decide_eq_false h
 intro w0; refine Spec.enter1 Tryz.func168 rfl Tryz.ntmps168 (by decide) ?_
 by_cases h1 : 0 ≤ x.thread
 ·by_cases h2 : x.thread < 4
  ·by_cases h3 : 0 ≤ x.from_
   ·by_cases h4 : x.from_ ≤ x.to_
    ·by_cases h5 : 1 ≤ x.op.kind
     ·by_cases h6 : x.op.kind ≤ 7
      ·rw [decide_eq_true (show callOk x from ⟨h1, h2, h3, h4, h5, h6⟩)]
       repeat' (first|refine Ga0 fun _=>?_|refine Ga1 ?_|refine Ga2 (fun _=>?_) fun _=>?_|refine Ga3 ?_|refine Ga4 fun _=>?_|fail)
       exact bodyK.retD L (Res.one Tryz.results168) ⟨rfl, rfl⟩
      ·rw [no fun h => h6 h.2.2.2.2.2]
       repeat' (first|refine Ga0 fun _=>?_|refine Ga1 ?_|refine Ga2 (fun _=>?_) fun _=>?_|refine Ga3 ?_|refine Ga4 fun _=>?_|fail)
       exact bodyK.retD L (Res.one Tryz.results168) ⟨rfl, rfl⟩
     ·rw [no fun h => h5 h.2.2.2.2.1]
      repeat' (first|refine Ga0 fun _=>?_|refine Ga1 ?_|refine Ga2 (fun _=>?_) fun _=>?_|refine Ga3 ?_|refine Ga4 fun _=>?_|fail)
      exact bodyK.retD L (Res.one Tryz.results168) ⟨rfl, rfl⟩
    ·rw [no fun h => h4 h.2.2.2.1]
     repeat' (first|refine Ga0 fun _=>?_|refine Ga1 ?_|refine Ga2 (fun _=>?_) fun _=>?_|refine Ga3 ?_|refine Ga4 fun _=>?_|fail)
     exact bodyK.retD L (Res.one Tryz.results168) ⟨rfl, rfl⟩
   ·rw [no fun h => h3 h.2.2.1]
    repeat' (first|refine Ga0 fun _=>?_|refine Ga1 ?_|refine Ga2 (fun _=>?_) fun _=>?_|refine Ga3 ?_|refine Ga4 fun _=>?_|fail)
    exact bodyK.retD L (Res.one Tryz.results168) ⟨rfl, rfl⟩
  ·rw [no fun h => h2 h.2.1]
   repeat' (first|refine Ga0 fun _=>?_|refine Ga1 ?_|refine Ga2 (fun _=>?_) fun _=>?_|refine Ga3 ?_|refine Ga4 fun _=>?_|fail)
   exact bodyK.retD L (Res.one Tryz.results168) ⟨rfl, rfl⟩
 ·rw [no fun h => h1 h.1]
  repeat' (first|refine Ga0 fun _=>?_|refine Ga1 ?_|refine Ga2 (fun _=>?_) fun _=>?_|refine Ga3 ?_|refine Ga4 fun _=>?_|fail)
  exact bodyK.retD L (Res.one Tryz.results168) ⟨rfl, rfl⟩
@[reducible] def lCell (v : Value) : Obj := .cells #[v] 186 (0, 0)
@[reducible] def nCell (n : Int) : Obj := .cells #[.int .i64 n] 3 (0, 0)
theorem oApart1 (l : List Td) (lv : Value) (i : Nat) (y : Td) (v1 v2 : Value) (b1 b2 : Nat) (D L : Chunk) [hD : MemC D L] [s1 : Sng v1] [s2 : Sng v2] (hl : LS 13 TdAt D lv l) (hi : i < l.length) [h1 : InC L b1 (lCell lv)] [h2 : InC L b2 (nCell (i : Int))] :
  Fn1 Tryz.prog 202 [.agg (tdC y v1 v2).toArray, .pointer (some ⟨b1, 0, none⟩), .pointer (some ⟨b2, 0, none⟩)] L (fun u L' => u = .bool (decide (cross y l[i])) ∧ L = L') := by
 have hn := hl.len
 obtain ⟨bk, kk, capk, lk, ek, frk, rfl, hbin, hbc, hbn⟩ := hl.open (by omega)
 obtain ⟨cc, hcut, vx, vb, rfl, hvx, hvb, hr⟩ := hbn i hi
 have q1 := hvx.sng
 have q2 := hvb.sng
 have hbin' : InC L bk (.cells lk.toArray ek frk) := ⟨hD.out _ hbin.out⟩
 have hlti : (i : Int) < l.length := by omega
 clear hbn
 generalize l[i] = x at *
 have g0 : NthL lk (kk + i * 13) (.int .i64 x.thread) := nth_cut 0 hcut rfl
 have no : ¬ cross y x → decide (cross y x) = false := fun h => decide_eq_false h
 intro w0; refine Spec.enter3 Tryz.func202 rfl Tryz.ntmps202 (by decide) ?_
 have z1:DrP 1 [0,1,2,3,4,5,6,7,8,9,10,11,12,13,14,15,16,17,18,19,20,21,22,23,24,25,26]:=⟨⟨⟩⟩
 by_cases c1 : y.thread = x.thread
 ·repeat' (first|refine Gi0 fun _=>?_|refine Gi1 ?_|refine Gi2 (fun _=>?_) fun _=>?_|refine Gi3 ?_|refine Gi4 fun _=>?_|fail)
  refine RW.call (oAhead y x v1 v2 vx vb _) ?_
  rintro _ _ ⟨rfl, rfl⟩
  refine pinAll ?_
  by_cases c2 : aheadP y x
  ·rw [decide_eq_true c2, no fun h => h.2.1 c2]
   repeat' (first|refine Gi0 fun _=>?_|refine Gi1 ?_|refine Gi2 (fun _=>?_) fun _=>?_|refine Gi3 ?_|refine Gi4 fun _=>?_|fail)
   exact bodyK.retD L (Res.one Tryz.results202) ⟨rfl, rfl⟩
  ·rw [decide_eq_false c2]
   repeat' (first|refine Gi0 fun _=>?_|refine Gi1 ?_|refine Gi2 (fun _=>?_) fun _=>?_|refine Gi3 ?_|refine Gi4 fun _=>?_|fail)
   refine RW.call (oAhead x y vx vb v1 v2 _) ?_
   rintro _ _ ⟨rfl, rfl⟩
   refine pinAll ?_
   by_cases c3 : aheadP x y
   ·rw [decide_eq_true c3, no fun h => h.2.2 c3]
    repeat' (first|refine Gi0 fun _=>?_|refine Gi1 ?_|refine Gi2 (fun _=>?_) fun _=>?_|refine Gi3 ?_|refine Gi4 fun _=>?_|fail)
    exact bodyK.retD L (Res.one Tryz.results202) ⟨rfl, rfl⟩
   ·rw [decide_eq_false c3, decide_eq_true (show cross y x from ⟨c1, c2, c3⟩)]
    repeat' (first|refine Gi0 fun _=>?_|refine Gi1 ?_|refine Gi2 (fun _=>?_) fun _=>?_|refine Gi3 ?_|refine Gi4 fun _=>?_|fail)
    exact bodyK.retD L (Res.one Tryz.results202) ⟨rfl, rfl⟩
 ·rw [no fun h => c1 h.1]
  repeat' (first|refine Gi0 fun _=>?_|refine Gi1 ?_|refine Gi2 (fun _=>?_) fun _=>?_|refine Gi3 ?_|refine Gi4 fun _=>?_|fail)
  exact bodyK.retD L (Res.one Tryz.results202) ⟨rfl, rfl⟩
theorem oIndex (v fv : Value) (l : List Td) (p : Td → Bool) (sf : Sng fv) (L : Chunk) (hv : LS 13 TdAt L v l)
  (hf : ∀ x ∈ l, ∀ vx vb, Sng vx → Sng vb → VP Tryz.prog fv [.agg (tdC x vx vb).toArray] L (fun u L' => u = .bool (p x) ∧ L = L') noPanic) :
  Fn1 Tryz.prog 231 [v, fv] L (fun u L' => (∃ j : Int, u = .int .i64 j ∧ (0 ≤ j ↔ l.any p = true)) ∧ L = L') := by
 have hn := hv.len
 obtain ⟨av, cv, rfl⟩ := hv.slice
 intro w0; refine Spec.enter2 Tryz.func231 rfl Tryz.ntmps231 (by decide) ?_
 repeat' (first|refine Ga0 fun _=>?_|refine Ga1 ?_|refine Ga2 (fun _=>?_) fun _=>?_|refine Ga3 ?_|fail)
 refine CW.count l.length (fun i ρ ds L' => ds = [] ∧ L' = L ∧ (l.take i).any p = false ∧ Ev ρ 0 (.slice av l.length cv) ∧ Ev ρ 1 fv ∧ Ev ρ 7 (.int .i64 (l.length : Int)) ∧ Ev ρ 8 (.int .i64 (i : Int))) ⟨rfl, rfl, by simp, ii, ii, ii, ii⟩ ?_
 rintro i ρ ds L' hi ⟨rfl, rfl, hg, e0, e1, e7, e8⟩
 by_cases hlt : i < l.length
 ·obtain ⟨bk, kk, capk, lk, ek, frk, hbe, hbin, hbc, hbn⟩ := hv.open (by omega)
  cases hbe
  obtain ⟨cc, hcut, vx, vb, rfl, hvx, hvb, htr⟩ := hbn i hlt
  have q1 := hvx.sng
  have q2 := hvb.sng
  have hm := List.getElem_mem hlt
  have hvp := hf l[i] hm vx vb q1 q2
  have hts : l.take (i + 1) = l.take i ++ [l[i]] := by rw [List.take_add_one, List.getElem?_eq_getElem hlt]; rfl
  have hyes : p l[i] = true → l.any p = true := fun h => List.any_eq_true.2 ⟨_, hm, h⟩
  have hnx : p l[i] = false → (l.take (i + 1)).any p = false := fun h => by rw [hts, List.any_append, hg]; simp [h]
  have hlti : (i : Int) < l.length := by omega
  clear hts hbn
  generalize l[i] = x at *
  repeat' (first|refine Ga0 fun _=>?_|refine Ga1 ?_|refine Ga2 (fun _=>?_) fun _=>?_|refine Ga3 ?_|fail)
  refine OW.callV1 hvp ?_
  rintro _ _ ⟨rfl, rfl⟩
  cases hp : p x with
  | true =>
   repeat' (first|refine Ga0 fun _=>?_|refine Ga1 ?_|refine Ga2 (fun _=>?_) fun _=>?_|refine Ga3 ?_|fail)
   exact bodyK.retD L' (Res.one Tryz.results231) ⟨⟨_, rfl, ⟨fun _ => hyes hp, fun _ => by omega⟩⟩, rfl⟩
  | false =>
   repeat' (first|refine Ga0 fun _=>?_|refine Ga1 ?_|refine Ga2 (fun _=>?_) fun _=>?_|refine Ga3 ?_|fail)
   exact ⟨hlt, rfl, rfl, hnx hp, ii, ii, ii, by rw [Int.natCast_add]; infer_instance⟩
 ·obtain rfl : i = l.length := by omega
  rw [List.take_length] at hg
  repeat' (first|refine Ga0 fun _=>?_|refine Ga1 ?_|refine Ga2 (fun _=>?_) fun _=>?_|refine Ga3 ?_|fail)
  exact bodyK.retD L' (Res.one Tryz.results231) ⟨⟨_, rfl, ⟨fun h => absurd h (by decide), fun h => by rw [hg] at h; cases h⟩⟩, rfl⟩
theorem oContains (v fv : Value) (l : List Td) (p : Td → Bool) (sf : Sng fv) (L : Chunk) (hv : LS 13 TdAt L v l)
  (hf : ∀ x ∈ l, ∀ vx vb, Sng vx → Sng vb → VP Tryz.prog fv [.agg (tdC x vx vb).toArray] L (fun u L' => u = .bool (p x) ∧ L = L') noPanic) :
  Fn1 Tryz.prog 201 [v, fv] L (fun u L' => u = .bool (l.any p) ∧ L = L') := by
 have sv := hv.sng
 intro w0; refine Spec.enter2 Tryz.func201 rfl Tryz.ntmps201 (by decide) ?_
 repeat' (first|refine Ga0 fun _=>?_|refine Ga1 ?_|refine Ga2 (fun _=>?_) fun _=>?_|refine Ga3 ?_|fail)
 refine OW.call (oIndex v fv l p sf _ hv hf) ?_
 rintro _ _ ⟨⟨j, rfl, hj⟩, rfl⟩
 by_cases h : 0 ≤ j
 ·rw [hj.1 h]
  repeat' (first|refine Ga0 fun _=>?_|refine Ga1 ?_|refine Ga2 (fun _=>?_) fun _=>?_|refine Ga3 ?_|fail)
  exact bodyK.retD L (Res.one Tryz.results201) ⟨rfl, rfl⟩
 ·rw [show l.any p = false from Bool.eq_false_iff.2 fun h' => h (hj.2 h')]
  repeat' (first|refine Ga0 fun _=>?_|refine Ga1 ?_|refine Ga2 (fun _=>?_) fun _=>?_|refine Ga3 ?_|fail)
  exact bodyK.retD L (Res.one Tryz.results201) ⟨rfl, rfl⟩
theorem lsTake {α : Type} {s : Nat} {R : Chunk → List Value → α → Prop} {L : Chunk} {b k cap i : Nat} {as_ : List α} (h : LS s R L (.slice (some ⟨b, k, none⟩) as_.length cap) as_) (hi : i ≤ as_.length) : LS s R L (.slice (some ⟨b, k, none⟩) i i) (as_.take i) := by
 obtain ⟨xs, hr, hl⟩ := h.rd
 have hlen : (as_.take i).length = i := by rw [List.length_take]; omega
 have tk : ∀ (i : Nat) (xs : List Value) (zs : List α), LAt s (R L) xs zs → LAt s (R L) (xs.take (i * s)) (zs.take i) := by
  intro i
  induction i with
  | zero => intro xs zs _; simp; rfl
  | succ i ih =>
   intro xs zs h
   cases zs with
   | nil =>
    have : xs = [] := h
    subst this
    simp; rfl
   | cons a zs =>
    obtain ⟨c, r, e, h0, h1, h2⟩ := h
    refine ⟨c, r.take (i * s), ?_, h0, h1, ih r zs h2⟩
    rw [e, Nat.add_mul, Nat.one_mul, Nat.add_comm, ← h0, List.take_append, List.take_of_length_le (by omega)]
    congr 2
    omega
 refine ⟨⟨xs.take (i * s), ?_, tk i xs as_ hl⟩, by rw [hlen]; have := h.len; omega⟩
 rw [hlen]
 rcases hr.2 with ⟨⟨a, c, h1⟩, h2⟩ | ⟨b', k', cap', c, e, fr, h1, h2, h3, h4, h5⟩
 ·have hi0 : i = 0 := by omega
  subst hi0
  exact ⟨by simp, .inl ⟨⟨_, _, rfl⟩, rfl⟩⟩
 ·cases h1
  have hmul : i * s ≤ as_.length * s := Nat.mul_le_mul_right _ hi
  refine ⟨by have := hr.1; simp; omega, .inr ⟨b, k, i, c, e, fr, rfl, h2, by omega, ?_, Nat.le_refl _⟩⟩
  rw [← h4, List.take_take]
  congr 1
  omega
theorem oApart (l : List Td) (lv : Value) (i : Nat) (L : Chunk) (hl : LS 13 TdAt L lv l) (hi : i < l.length) :
  Fn1 Tryz.prog 169 [lv, .int .i64 (i : Int)] L (fun u L' => u = .bool (!(l.take i).any (fun y => decide (cross y l[i]))) ∧ L = L') := by
 have hn := hl.len
 have hl0 := hl
 obtain ⟨bk, kk, capk, lk, ek, frk, rfl, hbin, hbc, hbn⟩ := hl.open (by omega)
 clear hbn
 intro w0; refine Spec.enter2 Tryz.func169 rfl Tryz.ntmps169 (by decide) ?_
 repeat' (first|refine Ga0 fun _=>?_|refine Ga1 ?_|refine Ga2 (fun _=>?_) fun _=>?_|refine Ga3 ?_|refine Ga4 fun _=>?_|fail)
 rename_i b2 b3
 refine OW.sl3 (h' := i) (j := (i : Int)) ⟨by omega, by omega⟩ ?_
 repeat' (first|refine Ga0 fun _=>?_|refine Ga1 ?_|refine Ga2 (fun _=>?_) fun _=>?_|refine Ga3 ?_|refine Ga4 fun _=>?_|fail)
 refine OW.call (oContains _ _ (l.take i) (fun y => decide (cross y l[i])) ii _ (LS.to (lsTake hl0 (Nat.le_of_lt hi)) (fun c a h => TdAt.to c a h)) (fun y _ v1 v2 s1 s2 => FnP.vp (first := #[]) (cap := #[.pointer (some ⟨b2, 0, none⟩), .pointer (some ⟨b3, 0, none⟩)]) (oApart1 l _ i y v1 v2 b2 b3 L _ hl0 hi))) ?_
 rintro _ _ ⟨rfl, rfl⟩
 repeat' (first|refine Ga0 fun _=>?_|refine Ga1 ?_|refine Ga2 (fun _=>?_) fun _=>?_|refine Ga3 ?_|refine Ga4 fun _=>?_|fail)
 exact bodyK.retD L (Res.one Tryz.results169) ⟨rfl, rfl⟩
theorem range_any (p : Nat → Bool) (i : Nat) : (List.range (i + 1)).any p = ((List.range i).any p || p i) := by rw [List.range_succ, List.any_append]; simp
theorem badAt_of {l : List Td} {i : Nat} (h : i < l.length) : badAt l i = (!decide (callOk l[i]) || (l.take i).any (fun y => decide (cross y l[i]))) := by
 unfold badAt; rw [List.getElem?_eq_getElem h]
theorem check_bad {l : List Td} {i : Nat} (h : i < l.length) (hb : badAt l i = true) : checkE l = 2 := by
 unfold checkE
 rw [if_pos (List.any_eq_true.2 ⟨i, List.mem_range.2 h, hb⟩)]
theorem check_good {l : List Td} (h : (List.range l.length).any (badAt l) = false) : checkE l = if 10 < l.length then 3 else 0 := by
 unfold checkE
 rw [if_neg (by rw [h]; decide)]
theorem oCheck (v : Value) (l : List Td) (L : Chunk) (hl : LS 13 TdAt L v l) :
  Fn1 Tryz.prog 131 [v] L (fun u L' => u = .int .i64 (checkE l) ∧ L = L') := by
 have hn := hl.len
 obtain ⟨av, cv, rfl⟩ := hl.slice
 intro w0; refine Spec.enter1 Tryz.func131 rfl Tryz.ntmps131 (by decide) ?_
 repeat' (first|refine Ga0 fun _=>?_|refine Ga1 ?_|refine Ga2 (fun _=>?_) fun _=>?_|refine Ga3 ?_|refine Ga4 fun _=>?_|fail)
 refine CW.count l.length (fun i ρ ds Lx => ds = [] ∧ (∃ X : Chunk, Lx = X ++ L) ∧ (List.range i).any (badAt l) = false ∧ Ev ρ 0 (.slice av l.length cv) ∧ Ev ρ 5 (.slice av l.length cv) ∧ Ev ρ 6 (.int .i64 (l.length : Int)) ∧ Ev ρ 7 (.int .i64 (i : Int)))
  ⟨rfl, ⟨[], rfl⟩, rfl, ii, ii, ii, ii⟩ ?_
 rintro i ρ ds Lx hi ⟨rfl, ⟨X, rfl⟩, hg, e0, e5, e6, e7⟩
 by_cases hlt : i < l.length
 ·obtain ⟨bk, kk, capk, lk, ek, frk, hbe, hbin, hbc, hbn⟩ := hl.open (by omega)
  cases hbe
  obtain ⟨cc, hcut, vx, vb, rfl, hvx, hvb, htr⟩ := hbn i hlt
  have q1 := hvx.sng
  have q2 := hvb.sng
  have hlti : (i : Int) < l.length := by omega
  have hba := badAt_of hlt
  have hbad := check_bad hlt
  have hnext : badAt l i = false → (List.range (i + 1)).any (badAt l) = false := fun h => by rw [range_any, hg, h]; rfl
  clear hbn
  have hap := fun L h => oApart l (.slice (some ⟨bk, kk, none⟩) l.length cv) i L h hlt
  generalize hxi : l[i] = x at *
  repeat' (first|refine Ga0 fun _=>?_|refine Ga1 ?_|refine Ga2 (fun _=>?_) fun _=>?_|refine Ga3 ?_|refine Ga4 fun _=>?_|fail)
  refine OW.call (oCall x vx vb _) ?_
  rintro _ _ ⟨rfl, rfl⟩
  by_cases c1 : callOk x
  ·rw [decide_eq_true c1]
   rw [decide_eq_true c1] at hba
   repeat' (first|refine Ga0 fun _=>?_|refine Ga1 ?_|refine Ga2 (fun _=>?_) fun _=>?_|refine Ga3 ?_|refine Ga4 fun _=>?_|fail)
   refine OW.call (hap _ (LS.to hl (fun c a h => TdAt.to c a h))) ?_
   rintro _ _ ⟨rfl, rfl⟩
   cases c2 : (l.take i).any (fun y => decide (cross y x)) with
   | true =>
    rw [c2] at hba
    rw [hbad hba]
    repeat' (first|refine Ga0 fun _=>?_|refine Ga1 ?_|refine Ga2 (fun _=>?_) fun _=>?_|refine Ga3 ?_|refine Ga4 fun _=>?_|fail)
    exact bodyK.retD L (Res.one Tryz.results131) ⟨rfl, rfl⟩
   | false =>
    rw [c2] at hba
    repeat' (first|refine Ga0 fun _=>?_|refine Ga1 ?_|refine Ga2 (fun _=>?_) fun _=>?_|refine Ga3 ?_|refine Ga4 fun _=>?_|fail)
    exact ⟨hlt, rfl, ⟨_ :: X, rfl⟩, hnext hba, ii, ii, ii, by rw [Int.natCast_add]; infer_instance⟩
  ·rw [decide_eq_false c1]
   rw [decide_eq_false c1] at hba
   rw [hbad hba]
   repeat' (first|refine Ga0 fun _=>?_|refine Ga1 ?_|refine Ga2 (fun _=>?_) fun _=>?_|refine Ga3 ?_|refine Ga4 fun _=>?_|fail)
   exact bodyK.retD L (Res.one Tryz.results131) ⟨rfl, rfl⟩
 ·obtain rfl : i = l.length := by omega
  rw [check_good hg]
  by_cases c : (10 : Int) < l.length
  ·rw [if_pos (by omega)]
   repeat' (first|refine Ga0 fun _=>?_|refine Ga1 ?_|refine Ga2 (fun _=>?_) fun _=>?_|refine Ga3 ?_|refine Ga4 fun _=>?_|fail)
   exact bodyK.retD L (Res.one Tryz.results131) ⟨rfl, rfl⟩
  ·rw [if_neg (by omega)]
   repeat' (first|refine Ga0 fun _=>?_|refine Ga1 ?_|refine Ga2 (fun _=>?_) fun _=>?_|refine Ga3 ?_|refine Ga4 fun _=>?_|fail)
   exact bodyK.retD L (Res.one Tryz.results131) ⟨rfl, rfl⟩
theorem td_sng {L : Chunk} : ∀ {xs : List Value} {as_ : List Td}, LAt 13 (TdAt L) xs as_ → ∀ v ∈ xs, Sng v
 | xs, [], h => fun v hv => by have : xs = [] := h; subst this; cases hv
 | _, p :: ps, ⟨c, r, e, h0, ⟨vx, vb, h1, hx, hb, _⟩, h2⟩ => fun v hv => by
  subst e h1
  have q1 := hx.sng
  have q2 := hb.sng
  rcases List.mem_append.1 hv with hv | hv
  ·simp only [tdC, List.mem_cons, List.not_mem_nil, or_false] at hv
   rcases hv with rfl | rfl | rfl | rfl | rfl | rfl | rfl | rfl | rfl | rfl | rfl | rfl | rfl <;> first | infer_instance | assumption
  ·exact td_sng h2 v hv
theorem oClone (v : Value) (l : List Td) (L : Chunk) (hl : LS 13 TdAt L v l) (hb : l.length ≤ 4096) :
  Fn1 Tryz.prog 170 [v] L (fun u L' => ∃ N, L' = N ++ L ∧ LS 13 TdAt (N ++ L) u l) := by
 obtain ⟨xs, hrd, hlat⟩ := hl.rd
 have hsn := td_sng hlat
 have hn := hl.len
 have hl' := hl
 obtain ⟨av, cv, rfl⟩ := hl'.slice
 intro w0; refine Spec.enter1 Tryz.func170 rfl Tryz.ntmps170 (by decide) ?_
 cases av with
 | none =>
  have h0 : l = [] := by
   rcases hrd.2 with ⟨_, h⟩ | ⟨b, k, cap, c, e, fr, h, _⟩
   ·exact List.eq_nil_of_length_eq_zero h
   ·cases h
  subst h0
  repeat' (first|refine Ga0 fun _=>?_|refine Ga1 ?_|refine Ga2 (fun _=>?_) fun _=>?_|refine Ga3 ?_|refine Ga4 fun _=>?_|fail)
  refine bodyK.retD L (Res.one Tryz.results170) ⟨[], rfl, ?_⟩
  exact ⟨⟨[], ⟨by simp, .inl ⟨⟨_, _, rfl⟩, rfl⟩⟩, rfl⟩, by simp⟩
 | some a =>
  repeat' (first|refine Ga0 fun _=>?_|refine Ga1 ?_|refine Ga2 (fun _=>?_) fun _=>?_|refine Ga3 ?_|refine Ga4 fun _=>?_|fail)
  rename_i b5
  refine OW.append (N := [(b5, .cells #[] 103 (0, 0))]) (n := 0) (xs := []) ⟨rfl, .inr ⟨b5, 0, [], rfl, rfl, Nat.le_refl _, rfl⟩⟩ ii (hrd.mono fun q hq => List.mem_cons_of_mem _ hq) hsn (by omega) (fun w' N' hrow' => ?_)
  have sw := hrow'.sng
  repeat' (first|refine Ga0 fun _=>?_|refine Ga1 ?_|refine Ga2 (fun _=>?_) fun _=>?_|refine Ga3 ?_|refine Ga4 fun _=>?_|fail)
  refine bodyK.retD (N' ++ L) (Res.one Tryz.results170) ⟨N', rfl, ?_⟩
  have hrr := hrow'.rd
  rw [Nat.zero_add, List.nil_append] at hrr
  exact ⟨⟨xs, hrr.mono fun q hq => List.mem_append_left _ hq, hlat.mono fun c a h => TdAt.to c a h⟩, hn⟩
theorem oAheadS (i : Int) (v : Value) (l : List Td) (L : Chunk) (hl : LS 13 TdAt L v l) (hb : l.length ≤ 4096) :
  Fn1 Tryz.prog 133 [.int .i64 i, v] L (fun u L' => ∃ b2 b5 w N, u = .func (.func 171) #[] #[.pointer (some ⟨b2, 0, none⟩), .pointer (some ⟨b5, 0, none⟩)] ∧ L' = (b5, .cells #[w] 84 (0, 0)) :: (N ++ (b2, nCell i) :: L) ∧ LS 13 TdAt (N ++ (b2, nCell i) :: L) w l) := by
 have sv := hl.sng
 intro w0; refine Spec.enter2 Tryz.func133 rfl Tryz.ntmps133 (by decide) ?_
 repeat' (first|refine Ga0 fun _=>?_|refine Ga1 ?_|refine Ga2 (fun _=>?_) fun _=>?_|refine Ga3 ?_|refine Ga4 fun _=>?_|fail)
 rename_i b2
 refine OW.call (oClone v l _ (LS.to hl (fun c a h => TdAt.to c a h)) hb) ?_
 rintro w _ ⟨N, rfl, hw⟩
 have sw := hw.sng
 repeat' (first|refine Ga0 fun _=>?_|refine Ga1 ?_|refine Ga2 (fun _=>?_) fun _=>?_|refine Ga3 ?_|refine Ga4 fun _=>?_|fail)
 rename_i b5
 exact bodyK.ret (Res.one Tryz.results133) ⟨b2, b5, w, N, rfl, rfl, hw⟩
theorem oAhead1 (fv w : Value) (b2 b5 : Nat) (l : List Td) (i : Nat) (hi : i < l.length) (J : Nat → Chunk → Prop) (E : Chunk → Prop) (D L : Chunk) (sf : Sng fv) (hl : LS 13 TdAt D w l) (hJ : J 0 L)
  (hk : ∀ k L', J k L' → MemC D L' ∧ InC L' b2 (nCell (i : Int)) ∧ InC L' b5 (.cells #[w] 84 (0, 0)) ∧
   (∀ h : k < l.length, aheadP l[k] l[i] → ∀ M, VP Tryz.prog fv [.int .i64 (k : Int)] (M ++ L') (fun u L'' => ∃ Y L3, L'' = Y ++ (M ++ L3) ∧ ((u = .bool true ∧ J (k + 1) L3) ∨ (u = .bool false ∧ E L3))) noPanic) ∧
   (∀ h : k < l.length, ¬ aheadP l[k] l[i] → J (k + 1) L') ∧ (k = l.length → E L'))
  (hEE : ∀ L', E L' → MemC D L' ∧ InC L' b2 (nCell (i : Int)) ∧ InC L' b5 (.cells #[w] 84 (0, 0))) :
  Fn1 Tryz.prog 171 [fv, .pointer (some ⟨b2, 0, none⟩), .pointer (some ⟨b5, 0, none⟩)] L (fun _ L' => E L') := by
 have hn := hl.len
 obtain ⟨bk, kk, capk, lk, ek, frk, rfl, hbin, hbc, hbn⟩ := hl.open (by omega)
 obtain ⟨hD, hi1, hi2, _, _, _⟩ := hk _ L hJ
 have hii : (i : Int) < l.length := by omega
 intro w0; refine Spec.enter3 Tryz.func171 rfl Tryz.ntmps171 (by decide) ?_
 repeat' (first|refine Gm0 fun _=>?_|refine Gm1 ?_|refine Gm2 (fun _=>?_) fun _=>?_|refine Gm3 ?_|refine Gm4 fun _=>?_|fail)
 clear hD hi1 hi2
 refine CW.count l.length (fun k ρ ds Lx => ds = [] ∧ (∃ X L', Lx = X ++ L' ∧ J k L') ∧ Ev ρ 0 fv ∧ Ev ρ 1 (.pointer (some ⟨b2, 0, none⟩)) ∧ Ev ρ 2 (.pointer (some ⟨b5, 0, none⟩)) ∧ Ev ρ 14 (.slice (some ⟨bk, kk, none⟩) l.length capk) ∧ Ev ρ 15 (.int .i64 (l.length : Int)) ∧ Ev ρ 16 (.int .i64 (k : Int)))
  ⟨rfl, ⟨[], L, rfl, hJ⟩, ii, ii, ii, ii, ii, ii⟩ ?_
 clear hJ
 rintro k ρ ds Lx hk' ⟨rfl, ⟨X, L', rfl, hJ⟩, e0, e1, e2, e14, e15, e16⟩
 obtain ⟨hD, hi1, hi2, hy, hno, hE⟩ := hk _ L' hJ
 by_cases hlt : k < l.length
 ·obtain ⟨cc, hcut, vx, vb, rfl, hvx, hvb, htr⟩ := hbn k hlt
  obtain ⟨cc, hcuti, wx, wb, rfl, hwx, hwb, htri⟩ := hbn i hi
  have q1 := hvx.sng
  have q2 := hvb.sng
  have q3 := hwx.sng
  have q4 := hwb.sng
  have hlti : (k : Int) < l.length := by omega
  have hbin' : InC L' bk (.cells lk.toArray ek frk) := ⟨hD.out _ hbin.out⟩
  have hy := hy hlt
  have hno := hno hlt
  generalize l[k] = x at *
  generalize l[i] = y at *
  clear hbn
  repeat' (first|refine Gm0 fun _=>?_|refine Gm1 ?_|refine Gm2 (fun _=>?_) fun _=>?_|refine Gm3 ?_|refine Gm4 fun _=>?_|fail)
  rename_i bx
  have hR0 : ∀ L3, MemC D L3 → InC L3 b2 (nCell (i : Int)) → InC L3 b5 (.cells #[.slice (some ⟨bk, kk, none⟩) l.length capk] 84 (0, 0)) → ∀ A : Chunk, ∀ p ∈ [(bx, Obj.cells (tdC x vx vb).toArray 103 (0, 0)), (b2, nCell (i : Int)), (b5, .cells #[.slice (some ⟨bk, kk, none⟩) l.length capk] 84 (0, 0)), (bk, .cells lk.toArray ek frk)], p ∈ A ++ ((bx, Obj.cells (tdC x vx vb).toArray 103 (0, 0)) :: (X ++ L3)) := fun L3 h1 h2 h3 A p hp => by
   simp only [List.mem_cons, List.not_mem_nil, or_false] at hp
   rcases hp with rfl | rfl | rfl | rfl
   ·exact List.mem_append_right _ (List.mem_cons_self ..)
   ·exact List.mem_append_right _ (List.mem_cons_of_mem _ (List.mem_append_right _ h2.out))
   ·exact List.mem_append_right _ (List.mem_cons_of_mem _ (List.mem_append_right _ h3.out))
   ·exact List.mem_append_right _ (List.mem_cons_of_mem _ (List.mem_append_right _ (h1.out _ hbin.out)))
  have hRL : MemC [(bx, Obj.cells (tdC x vx vb).toArray 103 (0, 0)), (b2, nCell (i : Int)), (b5, .cells #[.slice (some ⟨bk, kk, none⟩) l.length capk] 84 (0, 0)), (bk, .cells lk.toArray ek frk)] ((bx, Obj.cells (tdC x vx vb).toArray 103 (0, 0)) :: (X ++ L')) := ⟨hR0 L' hD hi1 hi2 []⟩
  refine CW.drawsR [(bx, Obj.cells (tdC x vx vb).toArray 103 (0, 0)), (b2, nCell (i : Int)), (b5, .cells #[.slice (some ⟨bk, kk, none⟩) l.length capk] 84 (0, 0)), (bk, .cells lk.toArray ek frk)] [0, 1, 2, 3, 4, 5, 6, 7, 8, 9, 10, 11] mixed (by kernel_rfl) ?_
  repeat' (first|refine Gm0 fun _=>?_|refine Gm1 ?_|refine Gm2 (fun _=>?_) fun _=>?_|refine Gm3 ?_|refine Gm4 fun _=>?_|fail)
  refine RW.call (oAhead x y vx vb wx wb _) ?_
  rintro _ _ ⟨rfl, rfl⟩
  refine ⟨_, fun _ h => h, hR0 L' hD hi1 hi2 [], ?_⟩
  by_cases ha : aheadP x y
  ·rw [decide_eq_true ha]
   repeat' (first|refine Gm0 fun _=>?_|refine Gm1 ?_|refine Gm2 (fun _=>?_) fun _=>?_|refine Gm3 ?_|refine Gm4 fun _=>?_|fail)
   refine RW.callV1 (hy ha ((bx, Obj.cells (tdC x vx vb).toArray 103 (0, 0)) :: X)) ?_
   rintro _ _ ⟨Y, L3, rfl, ⟨rfl, hJ'⟩ | ⟨rfl, hE'⟩⟩
   ·obtain ⟨k1, k2, k3, _⟩ := hk _ _ hJ'
    refine ⟨_, fun _ h => h, hR0 L3 k1 k2 k3 Y, ?_⟩
    repeat' (first|refine Gm0 fun _=>?_|refine Gm1 ?_|refine Gm2 (fun _=>?_) fun _=>?_|refine Gm3 ?_|refine Gm4 fun _=>?_|fail)
    exact ⟨hlt, rfl, ⟨Y ++ ((bx, Obj.cells (tdC x vx vb).toArray 103 (0, 0)) :: X), L3, (List.append_assoc Y ((bx, Obj.cells (tdC x vx vb).toArray 103 (0, 0)) :: X) L3).symm, hJ'⟩, ii, ii, ii, ii, ii, by rw [Int.natCast_add]; infer_instance⟩
   ·obtain ⟨k1, k2, k3⟩ := hEE _ hE'
    refine ⟨_, fun _ h => h, hR0 L3 k1 k2 k3 Y, ?_⟩
    repeat' (first|refine Gm0 fun _=>?_|refine Gm1 ?_|refine Gm2 (fun _=>?_) fun _=>?_|refine Gm3 ?_|refine Gm4 fun _=>?_|fail)
    exact bodyK.nrmD L3 (hs := ⟨List.Sublist.trans (List.sublist_append_right ((bx, Obj.cells (tdC x vx vb).toArray 103 (0, 0)) :: X) L3) (List.sublist_append_right Y _)⟩) (Res.zero Tryz.results171) hE'
  ·rw [decide_eq_false ha]
   repeat' (first|refine Gm0 fun _=>?_|refine Gm1 ?_|refine Gm2 (fun _=>?_) fun _=>?_|refine Gm3 ?_|refine Gm4 fun _=>?_|fail)
   exact ⟨hlt, rfl, ⟨_ :: X, L', rfl, hno ha⟩, ii, ii, ii, ii, ii, by rw [Int.natCast_add]; infer_instance⟩
 ·obtain rfl : k = l.length := by omega
  repeat' (first|refine Gm0 fun _=>?_|refine Gm1 ?_|refine Gm2 (fun _=>?_) fun _=>?_|refine Gm3 ?_|refine Gm4 fun _=>?_|fail)
  exact bodyK.nrmD L' (Res.zero Tryz.results171) (hE rfl)
structure CM (es : List MapEntry) (c : Nat) (o : List Nat) : Prop where
 kv : KV .i64 es c
 eq : es.map (fun e => (e.key, e.val)) = o.map fun (k : Nat) => (Value.int .i64 (k : Int), Value.bool true)
theorem CM.find {es : List MapEntry} {c : Nat} {o : List Nat} (h : CM es c o) (i : Nat) : findI es (i : Int) = if o.contains i then some (.bool true) else none := by
 cases hf : findI es (i : Int) with
 | none =>
  have h1 := h.kv.none_of hf
  have : o.contains i = false := by
   rw [List.contains_eq_mem, decide_eq_false_iff_not]
   intro hi
   have hm : (Value.int .i64 (i : Int), Value.bool true) ∈ es.map (fun e => (e.key, e.val)) := by rw [h.eq]; exact List.mem_map.2 ⟨i, hi, rfl⟩
   obtain ⟨e, he, hee⟩ := List.mem_map.1 hm
   have h2 := h1 e he
   rw [(Prod.mk.inj hee).1] at h2
   exact h2 rfl
  rw [this]; rfl
 | some v =>
  obtain ⟨A, e, B, e1, e2, e3⟩ := h.kv.some_of hf
  have hm : (e.key, e.val) ∈ es.map (fun e => (e.key, e.val)) := List.mem_map.2 ⟨e, by rw [e1]; simp, rfl⟩
  rw [h.eq] at hm
  obtain ⟨k, hk, hke⟩ := List.mem_map.1 hm
  have hk1 := (Prod.mk.inj hke).1
  have hk2 := (Prod.mk.inj hke).2
  rw [e2] at hk1
  have : k = i := by
   have := (Value.int.inj hk1).2
   omega
  subst this
  rw [show o.contains k = true by simpa using hk, if_pos rfl, ← e3, ← hk2]
theorem CM.nil : CM [] 0 [] := ⟨KV.nil _, rfl⟩
theorem free_come {l : List Td} {o : List Nat} {i : Nat} (hi : i < l.length) (h : o.contains i = true) : freeP l o i = false := by
 unfold freeP; rw [List.getElem?_eq_getElem hi]; simp only [h]; rfl
theorem free_yes {l : List Td} {o : List Nat} {i : Nat} (hi : i < l.length) (h : o.contains i = false) (ok : ∀ j (hj : j < l.length), aheadP l[j] l[i] → o.contains j = true) : freeP l o i = true := by
 unfold freeP
 rw [List.getElem?_eq_getElem hi]
 simp only [h, Bool.not_false, Bool.true_and, List.all_eq_true]
 intro j hj
 have hj' := List.mem_range.1 hj
 rw [List.getElem?_eq_getElem hj']
 simp only
 by_cases ha : aheadP l[j] l[i]
 ·rw [ok j hj' ha]; simp
 ·rw [decide_eq_false ha]; rfl
theorem free_no {l : List Td} {o : List Nat} {i : Nat} (hi : i < l.length) {j : Nat} (hj : j < l.length) (ha : aheadP l[j] l[i]) (hc : o.contains j = false) : freeP l o i = false := by
 unfold freeP
 rw [List.getElem?_eq_getElem hi]
 simp only [Bool.and_eq_false_iff]
 right
 rw [List.all_eq_false]
 refine ⟨j, List.mem_range.2 hj, ?_⟩
 rw [List.getElem?_eq_getElem hj]
 simp only [decide_eq_true ha, hc]
 decide
@[reducible] def sCell (lv : Value) (bc : Nat) (ov : Value) : Obj := .cells #[lv, .map (some bc), ov] 189 (0, 0)
theorem oFree (bs bc : Nat) (lv ov : Value) (l : List Td) (es : List MapEntry) (c : Nat) (o : List Nat) (i : Nat) (hi : i < l.length) (D L : Chunk) [hD : MemC D L] [h1 : InC L bs (sCell lv bc ov)] [h2 : InC L bc (.map es.toArray c)] (so : Sng ov) (hl : LS 13 TdAt D lv l) (hb : l.length ≤ 4096) (hc : CM es c o) :
  Fn1 Tryz.prog 88 [.pointer (some ⟨bs, 0, none⟩), .int .i64 (i : Int)] L (fun u L' => u = .bool (freeP l o i) ∧ L = L') := by
 have sl := hl.sng
 have hfi := hc.find i
 intro w0; refine Spec.enterM2 Tryz.func88 rfl Tryz.ntmps88 (by decide) ?_
 repeat' (first|refine Ga0 fun _=>?_|refine Ga1 ?_|refine Ga2 (fun _=>?_) fun _=>?_|refine Ga3 ?_|refine Ga4 fun _=>?_|fail)
 rename_i b2 b4
 refine OW.lookD (m := bc) (c := c) (es := es) (v := .bool (o.contains i)) hc.kv.keys (by rw [hfi]; cases o.contains i <;> rfl) ?_
 cases hci : o.contains i with
 | true =>
  rw [free_come hi hci]
  repeat' (first|refine Ga0 fun _=>?_|refine Ga1 ?_|refine Ga2 (fun _=>?_) fun _=>?_|refine Ga3 ?_|refine Ga4 fun _=>?_|fail)
  exact bodyM.retD L (Res.of1 Tryz.results88) ⟨rfl, rfl⟩
 | false =>
  repeat' (first|refine Ga0 fun _=>?_|refine Ga1 ?_|refine Ga2 (fun _=>?_) fun _=>?_|refine Ga3 ?_|refine Ga4 fun _=>?_|fail)
  refine OW.call (oAheadS (i : Int) lv l _ (LS.to hl (fun c a h => TdAt.to c a h)) hb) ?_
  rintro _ _ ⟨b2a, b5, w, N, rfl, rfl, hw⟩
  have sw := hw.sng
  repeat' (first|refine Ga0 fun _=>?_|refine Ga1 ?_|refine Ga2 (fun _=>?_) fun _=>?_|refine Ga3 ?_|refine Ga4 fun _=>?_|fail)
  refine CW.rangeFunc (fun lp DD rec hrec => ?_)
  refine (oAhead1 (.func (.yield lp) #[] #[]) w b2a b5 l i hi
   (fun k Lx => Lx = (lp, rec .ready none) :: (DD, .deferred (some [])) :: (b5, .cells #[w] 84 (0, 0)) :: (N ++ (b2a, nCell (i : Int)) :: (b4, .cells #[.bool false] 4 (0, 0)) :: (b2, .cells #[.pointer (some ⟨bs, 0, none⟩)] 182 (0, 0)) :: L) ∧ ∀ j (hj : j < l.length), j < k → aheadP l[j] l[i] → o.contains j = true)
   (fun Lx => (Lx = (lp, rec .ready none) :: (DD, .deferred (some [])) :: (b5, .cells #[w] 84 (0, 0)) :: (N ++ (b2a, nCell (i : Int)) :: (b4, .cells #[.bool false] 4 (0, 0)) :: (b2, .cells #[.pointer (some ⟨bs, 0, none⟩)] 182 (0, 0)) :: L) ∧ freeP l o i = true) ∨
    (Lx = (lp, rec .done (some .ret)) :: (DD, .deferred (some [])) :: (b5, .cells #[w] 84 (0, 0)) :: (N ++ (b2a, nCell (i : Int)) :: (b4, .cells #[.bool false] 4 (0, 0)) :: (b2, .cells #[.pointer (some ⟨bs, 0, none⟩)] 182 (0, 0)) :: L) ∧ freeP l o i = false))
   (N ++ (b2a, nCell (i : Int)) :: (b4, .cells #[.bool false] 4 (0, 0)) :: (b2, .cells #[.pointer (some ⟨bs, 0, none⟩)] 182 (0, 0)) :: L) _ ii hw ⟨rfl, fun j _ hj => by omega⟩ ?_ ?_ w0).mono ?_ (fun _ _ h => h.elim)
  ·rintro k _ ⟨rfl, hok⟩
   refine ⟨ii, ii, ii, fun hk ha M => ?_, fun hk ha => ⟨rfl, fun j hj hjk haj => ?_⟩, fun hk => .inl ⟨rfl, free_yes hi hci fun j hj haj => hok j hj (by omega) haj⟩⟩
   ·have hfk := hc.find k
    have hno : o.contains k = false → freeP l o i = false := fun h => free_no hi hk ha h
    have hnx : o.contains k = true → ∀ j (hj : j < l.length), j < k + 1 → aheadP l[j] l[i] → o.contains j = true := fun h j hj hjk haj => by
     by_cases he : j = k
     ·subst he; exact h
     ·exact hok j hj (by omega) haj
    refine VP.yield1 hrec (by decide) (fun w0 => ?_)
    repeat' (first|refine Ga0 fun _=>?_|refine Ga1 ?_|refine Ga2 (fun _=>?_) fun _=>?_|refine Ga3 ?_|refine Ga4 fun _=>?_|fail)
    refine beginR ?_
    repeat' (first|refine Ga0 fun _=>?_|refine Ga1 ?_|refine Ga2 (fun _=>?_) fun _=>?_|refine Ga3 ?_|refine Ga4 fun _=>?_|fail)
    refine OW.lookD (m := bc) (c := c) (es := es) (v := .bool (o.contains k)) hc.kv.keys (by rw [hfk]; cases o.contains k <;> rfl) ?_
    cases hck : o.contains k with
    | true =>
     repeat' (first|refine Ga0 fun _=>?_|refine Ga1 ?_|refine Ga2 (fun _=>?_) fun _=>?_|refine Ga3 ?_|refine Ga4 fun _=>?_|fail)
     refine roundK.nrm ?_
     exact ⟨[], _, rfl, .inl ⟨rfl, rfl, hnx hck⟩⟩
    | false =>
     repeat' (first|refine Ga0 fun _=>?_|refine Ga1 ?_|refine Ga2 (fun _=>?_) fun _=>?_|refine Ga3 ?_|refine Ga4 fun _=>?_|fail)
     refine roundK.ret ?_
     exact ⟨[], _, rfl, .inr ⟨rfl, .inr ⟨rfl, hno hck⟩⟩⟩
   ·by_cases he : j = k
    ·subst he; exact absurd haj ha
    ·exact hok j hj (by omega) haj
  ·rintro _ (⟨rfl, _⟩ | ⟨rfl, _⟩)
   ·exact ⟨ii, ii, ii⟩
   ·exact ⟨ii, ii, ii⟩
  ·rintro u _ (⟨rfl, hf⟩ | ⟨rfl, hf⟩)
   ·refine rangeK.nrm ?_
    rw [hf]
    repeat' (first|refine Ga0 fun _=>?_|refine Ga1 ?_|refine Ga2 (fun _=>?_) fun _=>?_|refine Ga3 ?_|refine Ga4 fun _=>?_|fail)
    exact bodyM.retM L (Res.of1 Tryz.results88) ⟨rfl, rfl⟩
   ·refine rangeK.jump (c := .ret) ?_
    rw [hf]
    repeat' (first|refine Ga0 fun _=>?_|refine Ga1 ?_|refine Ga2 (fun _=>?_) fun _=>?_|refine Ga3 ?_|refine Ga4 fun _=>?_|fail)
    exact bodyM.retM L (Res.of1 Tryz.results88) ⟨rfl, rfl⟩
@[reducible] def inN (o : List Nat) : List Value := o.map fun (k : Nat) => Value.int .i64 (k : Int)
theorem inN_len (o : List Nat) : (inN o).length = o.length * 1 := by simp
theorem inN_snoc (o : List Nat) (i : Nat) : inN (o ++ [i]) = inN o ++ [.int .i64 (i : Int)] := by simp
theorem CM.snoc {es : List MapEntry} {c : Nat} {o : List Nat} (h : CM es c o) {i : Nat} (hi : o.contains i = false) : CM (es ++ [MapEntry.mk (.int .i64 (i : Int)) (.bool true) c]) (c + 1) (o ++ [i]) := by
 have hf := h.find i
 rw [hi, if_neg (by decide)] at hf
 have hp := h.kv.put (j := (i : Int)) (u := .bool true)
 unfold putE at hp
 rw [hf] at hp
 exact ⟨hp, by rw [List.map_append, h.eq]; simp⟩
theorem CM.back {es : List MapEntry} {c : Nat} {o : List Nat} {i : Nat} (h : CM es c (o ++ [i])) (hi : o.contains i = false) : CM (delE (i : Int) es) c o := by
 refine ⟨h.kv.del, ?_⟩
 have hq := h.eq
 rw [List.map_append, List.map_cons, List.map_nil] at hq
 obtain ⟨A, B, rfl, hA, hB⟩ := List.map_eq_append_iff.1 hq
 obtain ⟨e, rfl, he⟩ : ∃ e, B = [e] ∧ (e.key, e.val) = (Value.int .i64 (i : Int), Value.bool true) := by
  cases B with
  | nil => cases hB
  | cons e B =>
   cases B with
   | nil => exact ⟨e, rfl, (List.cons.inj hB).1⟩
   | cons f B => exact absurd (congrArg List.length hB) (by simp)
 have hAk : ∀ x ∈ A, kI x.key ≠ (i : Int) := fun x hx hk => by
  have hm : (x.key, x.val) ∈ A.map (fun e => (e.key, e.val)) := List.mem_map.2 ⟨x, hx, rfl⟩
  rw [hA] at hm
  obtain ⟨k, hk1, hk2⟩ := List.mem_map.1 hm
  rw [← (Prod.mk.inj hk2).1] at hk
  have : k = i := by
   have : (k : Int) = (i : Int) := hk
   omega
  subst this
  rw [show o.contains k = true by simpa using hk1] at hi
  cases hi
 have hd : delE (i : Int) (A ++ [e]) = A := by
  unfold delE
  rw [List.filter_append, List.filter_eq_self.2 fun x hx => by simpa using hAk x hx]
  have : kI e.key = (i : Int) := by rw [(Prod.mk.inj he).1]; rfl
  simp [this]
 rw [hd]
 exact hA
theorem RowG.back {e : TypeId} {N : Chunk} {v : Value} {o : List Nat} {i : Nat} (h : RowG e 1 N v (o ++ [i]).length (inN (o ++ [i]))) : ∃ b cap, v = .slice (some ⟨b, 0, none⟩) (o ++ [i]).length cap ∧ o.length ≤ cap ∧ RowG e 1 N (.slice (some ⟨b, 0, none⟩) o.length o.length) o.length (inN o) := by
 rcases h.2 with ⟨_, h2, _⟩ | ⟨b, cap, rest, h1, h2, h3, h4⟩
 ·simp at h2
 ·refine ⟨b, cap, h1, by rw [List.length_append] at h3; omega, inN_len o, .inr ⟨b, o.length, [.int .i64 (i : Int)] ++ rest, rfl, ?_, Nat.le_refl _, ?_⟩⟩
  ·rw [h2, inN_snoc, List.append_assoc]
  ·rw [List.length_append, inN_len]; omega
theorem oWith (bs bc : Nat) (lv ov dv : Value) (es : List MapEntry) (c : Nat) (o : List Nat) (i : Nat) (N Z : Chunk) (Ψ : Chunk → Prop) (slv : Sng lv) (sd : Sng dv) (hrow : RowG 3 1 N ov o.length (inN o)) (hc : CM es c o) (hi : o.contains i = false) (hol : o.length ≤ 4096)
  (hdo : ∀ es' c' ov' N', CM es' c' (o ++ [i]) → RowG 3 1 N' ov' (o ++ [i]).length (inN (o ++ [i])) → VP Tryz.prog dv [] ((bs, sCell lv bc ov') :: (bc, .map (List.toArray es') c') :: (N' ++ Z)) (fun _ L'' => ∃ es2 c2 ov2 N2 Z2, CM es2 c2 (o ++ [i]) ∧ RowG 3 1 N2 ov2 (o ++ [i]).length (inN (o ++ [i])) ∧ L'' = (bs, sCell lv bc ov2) :: (bc, .map (List.toArray es2) c2) :: (N2 ++ Z2) ∧ Ψ Z2) noPanic) :
  Fn1 Tryz.prog 89 [.pointer (some ⟨bs, 0, none⟩), .int .i64 (i : Int), dv] ((bs, sCell lv bc ov) :: (bc, .map es.toArray c) :: (N ++ Z)) (fun _ L'' => ∃ es2 c2 ov2 N2 Z2, CM es2 c2 o ∧ RowG 3 1 N2 ov2 o.length (inN o) ∧ L'' = (bs, sCell lv bc ov2) :: (bc, .map (List.toArray es2) c2) :: (N2 ++ Z2) ∧ Ψ Z2) := by
 obtain ⟨oa, oc, hov, _⟩ := hrow.rd.isSlice
 have so : Sng ov := by rw [hov]; infer_instance
 intro w0; refine Spec.enter3 Tryz.func89 rfl Tryz.ntmps89 (by decide) ?_
 have z3:DrC 3 [0, 1, 2, 3, 5, 6, 7, 11, 12, 13] [4, 8, 9, 10, 14, 15, 16, 17, 18] 19 [20]:=⟨⟨⟩⟩
 refine CW.seq ?_
 refine CW.drawsSwR [0, 1, 2, 4, 5, 6, 7, 8, 10] [3, 9, 11, 12, 13, 14, 15] 16 [17, 18] mixed (by kernel_rfl) ?_
 repeat' (first|refine Gi0 fun _=>?_|refine Gi1 ?_|refine Gi2 (fun _=>?_) fun _=>?_|refine Gi3 ?_|refine Gi4 fun _=>?_|fail)
 refine ⟨[(bs, sCell lv bc ov)], fun p hp => by rw [List.mem_singleton.1 hp]; exact List.mem_cons_self .., ?_⟩
 repeat' (first|refine Gi0 fun _=>?_|refine Gi1 ?_|refine Gi2 (fun _=>?_) fun _=>?_|refine Gi3 ?_|refine Gi4 fun _=>?_|fail)
 rename_i b17
 refine RW.appendG hrow ii (Rd.blk (n := 1) (l := [.int .i64 (i : Int)]) rfl (Nat.le_refl _)) (fun z hz => by rw [List.mem_singleton.1 hz]; infer_instance) (by omega) (fun v' N' hrow' => ⟨[(bs, sCell lv bc ov)], fun _ h => h, fun p hp => by rw [List.mem_singleton.1 hp]; exact List.mem_cons_of_mem _ (List.mem_cons_self ..), ?_⟩)
 have sv' : Sng v' := by
  obtain ⟨a, c, h, _⟩ := hrow'.rd.isSlice
  rw [h]; infer_instance
 repeat' (first|refine Gi0 fun _=>?_|refine Gi1 ?_|refine Gi2 (fun _=>?_) fun _=>?_|refine Gi3 ?_|refine Gi4 fun _=>?_|fail)
 refine RW.entryNew (es := es) (c := c) (j := (i : Int)) hc.kv (by rw [hc.find i, hi]; rfl) ⟨[(bs, sCell lv bc ov)], fun _ h => h, fun p hp => by rw [List.mem_singleton.1 hp]; exact List.mem_cons_of_mem _ (List.mem_cons_self ..), ?_⟩
 repeat' (first|refine Gi0 fun _=>?_|refine Gi1 ?_|refine Gi2 (fun _=>?_) fun _=>?_|refine Gi3 ?_|refine Gi4 fun _=>?_|fail)
 refine RW.entryStore (es := es) (c := c) hc.kv.old ⟨[(bs, sCell lv bc ov)], fun _ h => h, fun p hp => by rw [List.mem_singleton.1 hp]; exact List.mem_cons_of_mem _ (List.mem_cons_self ..), ?_⟩
 have hc' := hc.snoc hi
 have hrow2 : RowG 3 1 N' v' (o ++ [i]).length (inN (o ++ [i])) := by rw [List.length_append, inN_snoc]; exact hrow'
 repeat' (first|refine Gi0 fun _=>?_|refine Gi1 ?_|refine Gi2 (fun _=>?_) fun _=>?_|refine Gi3 ?_|refine Gi4 fun _=>?_|fail)
 refine OW.drop (L' := (bs, sCell lv bc v') :: (bc, .map (es ++ [MapEntry.mk (.int .i64 (i : Int)) (.bool true) c]).toArray (c + 1)) :: (N' ++ Z)) (List.sublist_cons_self ..) ?_
 refine OW.callV1 (hdo _ _ v' N' hc' hrow2) ?_
 rintro _ _ ⟨es2, c2, ov2, N2, Z2, hc2, hrow2, rfl, hψ⟩
 obtain ⟨b, cap, rfl, hcap, hback⟩ := RowG.back hrow2
 have hol1 : ((o ++ [i]).length : Int) = (o.length : Int) + 1 := by simp
 have hlen : ((o ++ [i]).length : Int) ≤ 9223372036854775807 := by omega
 have t1 : ToN (((o ++ [i]).length : Int) - 1) o.length := ⟨by omega⟩
 repeat' (first|refine Gi0 fun _=>?_|refine Gi1 ?_|refine Gi2 (fun _=>?_) fun _=>?_|refine Gi3 ?_|refine Gi4 fun _=>?_|fail)
 refine OW.mapDel (es := es2) (c := c2) (j := (i : Int)) hc2.kv ?_
 rw [updO_none]
 repeat' (first|refine Gi0 fun _=>?_|refine Gi1 ?_|refine Gi2 (fun _=>?_) fun _=>?_|refine Gi3 ?_|refine Gi4 fun _=>?_|fail)
 refine RW.sl3 (h' := o.length) (j := ((o ++ [i]).length : Int) - 1) ⟨by omega, by omega⟩ ?_
 repeat' (first|refine Gi0 fun _=>?_|refine Gi1 ?_|refine Gi2 (fun _=>?_) fun _=>?_|refine Gi3 ?_|refine Gi4 fun _=>?_|fail)
 exact bodyK.nrm (Res.zero Tryz.results89) ⟨_, c2, _, N2, Z2, hc2.back hi, hback, rfl, hψ⟩
theorem oSet (b9 bs bc : Nat) (lv ov : Value) (es : List MapEntry) (c : Nat) (o : List Nat) (L : Chunk) [h0 : InC L b9 (.cells #[.pointer (some ⟨bs, 0, none⟩)] 182 (0, 0))] [h1 : InC L bs (sCell lv bc ov)] [h2 : InC L bc (.map es.toArray c)] (hc : CM es c o) (ho : ∀ k ∈ o, k < 16) :
  Fn1 Tryz.prog 83 [.pointer (some ⟨b9, 0, none⟩)] L (fun u L' => u = .int .i64 (setI o : Nat) ∧ L = L') := by
 obtain ⟨hz1, hz2, hz3⟩ := zip_key es o hc.eq
 intro w0; refine Spec.enter1 Tryz.func83 rfl Tryz.ntmps83 (by decide) ?_
 repeat' (first|refine Ga0 fun _=>?_|refine Ga1 ?_|refine Ga2 (fun _=>?_) fun _=>?_|refine Ga3 ?_|refine Ga4 fun _=>?_|fail)
 rename_i ri
 refine CW.loop (fun κ ρ ds L' => ds = [] ∧ (∃ (seen : Array Nat) (tz : List (MapEntry × Nat)) (m : Nat), L' = (ri, .mapIter (some bc) c seen c) :: L ∧ LeftZ (es.zip o) seen tz ∧ m < 2 ^ 16 ∧ m ||| setI (tz.map (·.2)) = setI o ∧ (∀ z ∈ tz, z ∈ es.zip o) ∧ κ = tz.length ∧ Ev ρ 1 (.int .i64 (m : Int))) ∧ Ev ρ 7 (.pointer (some ⟨ri, 0, none⟩))) (es.zip o).length
  ⟨rfl, ⟨#[], es.zip o, 0, rfl, LeftZ.init _, by decide, by rw [hz3]; simp, fun _ h => h, rfl, ii⟩, ii⟩ ?_
 rintro κ ρ ds L' ⟨rfl, ⟨seen, tz, m, rfl, hl, hm, hset, hsub, rfl, e1⟩, e7⟩
 repeat' (first|refine Ga0 fun _=>?_|refine Ga1 ?_|refine Ga2 (fun _=>?_) fun _=>?_|refine Ga3 ?_|refine Ga4 fun _=>?_|fail)
 refine OW.nextZ (r := ri) (m := bc) (since := c) (c0 := c) (clock := c) (seen := seen) (es := es) (zs := es.zip o) hc.kv hz2.symm hl (fun e he => hc.kv.old e he) (Nat.le_refl _) (fun h => ?_) (fun A' z B' htz hz' hl' => ?_)
 ·subst h
  rw [show setI (([] : List (MapEntry × Nat)).map (·.2)) = 0 from rfl, Nat.or_zero] at hset
  subst hset
  repeat' (first|refine Ga0 fun _=>?_|refine Ga1 ?_|refine Ga2 (fun _=>?_) fun _=>?_|refine Ga3 ?_|refine Ga4 fun _=>?_|fail)
  exact bodyK.retD L (Res.one Tryz.results83) ⟨rfl, rfl⟩
 ·have hze : z.1 ∈ es := by rw [← hz2]; exact List.mem_map.2 ⟨z, hz', rfl⟩
  have hk := hz1 z hz'
  have hk1 := (Prod.mk.inj hk).1
  have hko : z.2 < 16 := ho _ (by rw [← hz3]; exact List.mem_map.2 ⟨z, hz', rfl⟩)
  have hb : 1 <<< z.2 < 2 ^ 16 := by
   rw [Nat.shiftLeft_eq, Nat.one_mul]; exact Nat.pow_lt_pow_right (by decide) hko
  have hset' : (m ||| 1 <<< z.2) ||| setI ((A' ++ B').map (·.2)) = setI o := by
   rw [← hset, htz, List.map_append, List.map_append, List.map_cons, setI_mid, Nat.or_assoc]
  repeat' (first|refine Ga0 fun _=>?_|refine Ga1 ?_|refine Ga2 (fun _=>?_) fun _=>?_|refine Ga3 ?_|refine Ga4 fun _=>?_|fail)
  refine OW.entryE (r := ri) (m := bc) (since := c) (c := c) (seen := seen) (e := z.1) hc.kv hze ?_
  rw [hk1]
  repeat' (first|refine Ga0 fun _=>?_|refine Ga1 ?_|refine Ga2 (fun _=>?_) fun _=>?_|refine Ga3 ?_|refine Ga4 fun _=>?_|fail)
  rw [shl_i64 hko, or_i64 hm hb]
  exact ⟨(A' ++ B').length, by rw [htz]; simp, rfl, ⟨_, A' ++ B', m ||| 1 <<< z.2, rfl, hl', Nat.or_lt_two_pow hm hb, hset', fun y hy => hsub y (by rw [htz]; rcases List.mem_append.1 hy with hy | hy <;> simp [hy]), rfl, ii⟩, ii⟩
end Go.Proofs.YtmnhooepaemlcaaGreat
