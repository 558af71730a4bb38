/- OrderCalls: true for every input; arguments as before. Part 35. Conditions: none. -/
import Derived.Test.YtmnhooepaemlcaaGreatOC2
import Derived.Test.YtmnhooepaemlcaaGreatOC33
import Derived.Test.YtmnhooepaemlcaaGreatOC34
set_option linter.all false
namespace Go.Proofs.YtmnhooepaemlcaaGreat
open Go Go.Pw Go.Pw.Sc Go.Pw.Md
set_option maxRecDepth 100000
set_option maxHeartbeats 4000000
set_option synthInstance.maxHeartbeats 400000
set_option synthInstance.maxSize 2000
attribute [local irreducible] CW OW RW thenK blockK
attribute [local irreducible] scopeK loopK TRW ATW
theorem bare_step {m : Mod} {x : OpM} {o : OutM} {c : Int} (h : Md.step m x o = (m, decide (bareO o [c]))) : (o.errno ≠ c → Md.step m x o = (m, false)) ∧ (o.errno = c → Md.step m x o = (m, decide (noneO o))) :=
 ⟨fun g => by rw [h, decide_eq_false (fun hh => g (by simpa using hh.2))], fun g => by rw [h]; congr 2; simp [bareO, g]⟩
theorem rDo (m : Mod) (hwf : WF m) (v : Value) (x : OpM) (hxr : OpR x) (hk : 1 ≤ x.kind ∧ x.kind ≤ 7) (o : OutM) (vx vb : Value) (hor : OutR o) (D L : Chunk) [hD : MemC D L] (hl : RL D v m.L) (hvx : BS L vx x.bytes) (hb : BS L vb o.bytes) :
  Fn1 Tryz.prog 63 [mV m v, opV x vx, outV o vb] L (DoR D L (Md.step m x o)) := by
 have hlen := wf_len2 hwf
 have hl' := hl
 obtain ⟨av, cv, rfl⟩ := hl'.slice
 have hvx' := hvx
 have hb' := hb
 obtain ⟨ax, cx, rfl⟩ := hvx'.slice
 obtain ⟨ab, cb, rfl⟩ := hb'.slice
 have hsame := fun b => DoR.same (L := L) (m := m) (b := b) hl
 have z := hxr.size
 have zm := hxr.mult
 have zn := hxr.many
 have had := hxr.ad
 obtain ⟨z1, z2⟩ := z
 obtain ⟨zm1, zm2⟩ := zm
 obtain ⟨zn1, zn2⟩ := zn
 obtain ⟨k1, k2⟩ := hk
 intro w0; refine Spec.enter3 Tryz.func63 rfl Tryz.ntmps63 (by decide) ?_
 have z5:DrS 5 6 [0,1,2,3,4,5,6,7,8,9]:=⟨⟨⟩⟩; have z11:DrS 11 6 [0,1,2,3,4,5,6,7,8,9]:=⟨⟨⟩⟩; have z12:DrS 12 6 [0,1,2,3,4,5,6,7,8,9,10,11,12]:=⟨⟨⟩⟩; have z16:DrS 16 6 [0,1,2,3,4,5,6,7,8,9]:=⟨⟨⟩⟩; have z17:DrS 17 6 [0,1,3,4,5,2,6,7,8,9,10,11]:=⟨⟨⟩⟩; have z23:DrS 23 6 [0,1,2,3,4,5,6,7,8,9]:=⟨⟨⟩⟩; have z24:DrS 24 6 [0,1,2,3,4,5,6,7,8,9,10,11,12,13,14,15,16,17,18,19,20,21,22,23,24,25,26,27]:=⟨⟨⟩⟩
 by_cases h1 : x.kind = 1
 ·have e0 : Md.step m x o = match needOf x.size x.mult with | none => (m, decide (bareO o [2])) | some nd => handed m nd x.size x.mult 0 o [] := by unfold Md.step; rw [if_pos h1]; rfl
  repeat' (first|refine Gi0 fun _=>?_|refine Gi1 ?_|refine Gi2 (fun _=>?_) fun _=>?_|refine Gi3 ?_|refine Gi4 fun _=>?_|fail)
  refine OW.call (rSize x.size x.mult ⟨z1, z2⟩ _) ?_
  rintro _ _ ⟨rfl, rfl⟩
  cases hnd : needOf x.size x.mult with
  | none =>
   rw [hnd] at e0
   have hbr := bare_step e0
   by_cases c : o.errno = 2
   ·rw [hbr.2 c]
    clear hbr e0
    repeat' (first|refine Gi0 fun _=>?_|refine Gi1 ?_|refine Gi2 (fun _=>?_) fun _=>?_|refine Gi3 ?_|refine Gi4 fun _=>?_|fail)
    refine RW.call (rNone o _ _ hb.to) ?_
    rintro _ _ ⟨rfl, rfl⟩
    refine pinOld ?_
    generalize decide (noneO o) = bb
    repeat' (first|refine Gi0 fun _=>?_|refine Gi1 ?_|refine Gi2 (fun _=>?_) fun _=>?_|refine Gi3 ?_|refine Gi4 fun _=>?_|fail)
    exact bodyK.retD L (Res.of2 Tryz.results63) (hsame bb)
   ·rw [hbr.1 c]
    clear hbr e0
    repeat' (first|refine Gi0 fun _=>?_|refine Gi1 ?_|refine Gi2 (fun _=>?_) fun _=>?_|refine Gi3 ?_|refine Gi4 fun _=>?_|fail)
    exact bodyK.retD L (Res.of2 Tryz.results63) (hsame false)
  | some nd =>
   rw [hnd] at e0
   simp only at e0
   rw [e0]
   clear e0
   obtain ⟨g1, g2, g3⟩ := needOf_charge hnd
   have hsm : x.size ≤ 262144 ∧ isMult x.mult := by
    unfold needOf at hnd
    split at hnd
    ·cases hnd
    ·rename_i h
     exact ⟨by omega, by rcases Classical.em (isMult x.mult) with h' | h'; exact h'; exact absurd (.inr h') h⟩
   obtain ⟨hsm, hmu⟩ := hsm
   have hmu2 : 1 ≤ x.mult ∧ x.mult ≤ 256 := by unfold isMult at hmu; omega
   repeat' (first|refine Gi0 fun _=>?_|refine Gi1 ?_|refine Gi2 (fun _=>?_) fun _=>?_|refine Gi3 ?_|refine Gi4 fun _=>?_|fail)
   refine OW.call (rHanded m hwf _ nd x.size x.mult 0 o _ [] (.slice none 0 0) hor ⟨by omega, g3⟩ (by simp; omega) ⟨by omega, by omega⟩ hmu2 (by decide) D _ (RL.to' hl) hb.to ⟨rfl, .inl ⟨⟨_, _, rfl⟩, rfl⟩⟩) ?_
   rintro _ _ ⟨m', v', N, rfl, rfl, sv', hr⟩
   generalize handed m nd x.size x.mult 0 o [] = r at *
   obtain ⟨r1, r2⟩ := r
   simp only at hr ⊢
   repeat' (first|refine Gi0 fun _=>?_|refine Gi1 ?_|refine Gi2 (fun _=>?_) fun _=>?_|refine Gi3 ?_|refine Gi4 fun _=>?_|fail)
   refine bodyK.ret (Res.of2 Tryz.results63) ⟨m', v', _, rfl, Pre.out, sv', fun h => ⟨(hr h).1, ?_⟩⟩
   refine RL.to' (hm := ⟨fun q hq => ?_⟩) (hr h).2
   simp only [List.mem_append, List.mem_cons] at hq ⊢
   rcases hq with h | h <;> simp [h]
 by_cases h2 : x.kind = 2
 ·have e0 : Md.step m x o = match total x.many x.size with | none => (m, decide (bareO o [2])) | some t => match needOf t 1 with | none => (m, false) | some nd => handed m nd t 1 0 o (List.replicate nd.charge.toNat 0) := by unfold Md.step; rw [if_neg h1, if_pos h2]; rfl
  repeat' (first|refine Gi0 fun _=>?_|refine Gi1 ?_|refine Gi2 (fun _=>?_) fun _=>?_|refine Gi3 ?_|refine Gi4 fun _=>?_|fail)
  refine OW.call (rTotal x.many x.size ⟨zn1, zn2⟩ ⟨z1, z2⟩ _) ?_
  rintro _ _ ⟨rfl, rfl⟩
  cases ht : total x.many x.size with
  | none =>
   rw [ht] at e0
   have hbr := bare_step e0
   repeat' (first|refine Gi0 fun _=>?_|refine Gi1 ?_|refine Gi2 (fun _=>?_) fun _=>?_|refine Gi3 ?_|refine Gi4 fun _=>?_|fail)
   refine OW.call (rSize 0 1 (by decide) _) ?_
   rintro _ _ ⟨rfl, rfl⟩
   obtain ⟨nd0, hnd0⟩ := needOf_one (t := 0) (by decide)
   rw [hnd0]
   by_cases c : o.errno = 2
   ·rw [hbr.2 c]
    clear hbr e0
    repeat' (first|refine Gi0 fun _=>?_|refine Gi1 ?_|refine Gi2 (fun _=>?_) fun _=>?_|refine Gi3 ?_|refine Gi4 fun _=>?_|fail)
    refine RW.call (rNone o _ _ hb.to) ?_
    rintro _ _ ⟨rfl, rfl⟩
    refine pinOld ?_
    generalize decide (noneO o) = bb
    repeat' (first|refine Gi0 fun _=>?_|refine Gi1 ?_|refine Gi2 (fun _=>?_) fun _=>?_|refine Gi3 ?_|refine Gi4 fun _=>?_|fail)
    exact bodyK.retD L (Res.of2 Tryz.results63) (hsame bb)
   ·rw [hbr.1 c]
    clear hbr e0
    repeat' (first|refine Gi0 fun _=>?_|refine Gi1 ?_|refine Gi2 (fun _=>?_) fun _=>?_|refine Gi3 ?_|refine Gi4 fun _=>?_|fail)
    exact bodyK.retD L (Res.of2 Tryz.results63) (hsame false)
  | some t =>
   have ht2 : 0 ≤ t ∧ t ≤ 262144 := by
    have h0 : 0 ≤ x.many * x.size := Int.mul_nonneg zn1 z1
    unfold total at ht
    split at ht
    ·cases ht
    ·cases ht; omega
   obtain ⟨t1, t2⟩ := ht2
   obtain ⟨nd, hnd⟩ := needOf_one (t := t) t2
   rw [ht] at e0
   simp only [hnd] at e0
   rw [e0]
   clear e0
   obtain ⟨g1, g2, g3⟩ := needOf_charge hnd
   repeat' (first|refine Gi0 fun _=>?_|refine Gi1 ?_|refine Gi2 (fun _=>?_) fun _=>?_|refine Gi3 ?_|refine Gi4 fun _=>?_|fail)
   refine OW.call (rSize t 1 ⟨t1, by omega⟩ _) ?_
   rintro _ _ ⟨rfl, rfl⟩
   rw [hnd]
   repeat' (first|refine Gi0 fun _=>?_|refine Gi1 ?_|refine Gi2 (fun _=>?_) fun _=>?_|refine Gi3 ?_|refine Gi4 fun _=>?_|fail)
   refine RW.call (rBytes nd.charge 0 (by omega) _) ?_
   rintro v2 _ ⟨N2, rfl, hr2⟩
   have sv2 := hr2.sng
   have hlr : (List.replicate nd.charge.toNat (0 : Int)).length = nd.charge.toNat := by simp
   refine pinOld ?_
   repeat' (first|refine Gi0 fun _=>?_|refine Gi1 ?_|refine Gi2 (fun _=>?_) fun _=>?_|refine Gi3 ?_|refine Gi4 fun _=>?_|fail)
   refine RW.call (rHanded (hD := ⟨fun q hq => by
    have := hD.out
    simp only [List.mem_append, List.mem_cons] at hq ⊢
    rcases hq with h | h
    ·simp [h]
    ·simp [this _ h]⟩) m hwf _ nd t 1 0 o _ (List.replicate nd.charge.toNat 0) v2 hor ⟨by omega, g3⟩ (by rw [hlr]; omega) ⟨by omega, by omega⟩ (by decide) (by decide) (N2 ++ D) _ (RL.to' hl) hb.to (by rw [hlr]; exact hr2.to)) ?_
   rintro _ _ ⟨m', v', N, rfl, rfl, sv', hr⟩
   generalize handed m nd t 1 0 o (List.replicate nd.charge.toNat 0) = r at *
   obtain ⟨r1, r2⟩ := r
   simp only at hr ⊢
   refine pinOld ?_
   repeat' (first|refine Gi0 fun _=>?_|refine Gi1 ?_|refine Gi2 (fun _=>?_) fun _=>?_|refine Gi3 ?_|refine Gi4 fun _=>?_|fail)
   refine bodyK.ret (Res.of2 Tryz.results63) ⟨m', v', _, rfl, Pre.out, sv', fun h => ⟨(hr h).1, ?_⟩⟩
   refine RL.to' (hm := ⟨fun q hq => ?_⟩) (hr h).2
   simp only [List.mem_append, List.mem_cons] at hq ⊢
   rcases hq with h | h | h <;> simp [h]
 by_cases h3 : x.kind = 3
 ·have e0 : Md.step m x o = match m.find x.ad with | none => (m, decide (bareO o [320])) | some _ => if bareO o [0] then (m.without x.ad, true) else (m, false) := by unfold Md.step; rw [if_neg h1, if_neg h2, if_pos h3]; rfl
  repeat' (first|refine Gi0 fun _=>?_|refine Gi1 ?_|refine Gi2 (fun _=>?_) fun _=>?_|refine Gi3 ?_|refine Gi4 fun _=>?_|fail)
  refine OW.call (rFind m _ x.ad had _ (RL.to' hl)) ?_
  rintro _ _ ⟨⟨j, rfl, hj⟩, rfl⟩
  rcases find_pl hwf hj with ⟨rfl, hi⟩ | ⟨i, hi, rfl, hs, hpa⟩
  ·rw [hi] at e0
   have hbr := bare_step e0
   by_cases c : o.errno = 320
   ·rw [hbr.2 c]
    clear hbr e0
    repeat' (first|refine Gi0 fun _=>?_|refine Gi1 ?_|refine Gi2 (fun _=>?_) fun _=>?_|refine Gi3 ?_|refine Gi4 fun _=>?_|fail)
    refine RW.call (rNone o _ _ hb.to) ?_
    rintro _ _ ⟨rfl, rfl⟩
    refine pinOld ?_
    generalize decide (noneO o) = bb
    repeat' (first|refine Gi0 fun _=>?_|refine Gi1 ?_|refine Gi2 (fun _=>?_) fun _=>?_|refine Gi3 ?_|refine Gi4 fun _=>?_|fail)
    exact bodyK.retD L (Res.of2 Tryz.results63) (hsame bb)
   ·rw [hbr.1 c]
    clear hbr e0
    repeat' (first|refine Gi0 fun _=>?_|refine Gi1 ?_|refine Gi2 (fun _=>?_) fun _=>?_|refine Gi3 ?_|refine Gi4 fun _=>?_|fail)
    exact bodyK.retD L (Res.of2 Tryz.results63) (hsame false)
  ·rw [hs] at e0
   simp only at e0
   have hwi := without_at hwf hi
   rw [hpa] at hwi
   by_cases c : o.errno = 0
   ·repeat' (first|refine Gi0 fun _=>?_|refine Gi1 ?_|refine Gi2 (fun _=>?_) fun _=>?_|refine Gi3 ?_|refine Gi4 fun _=>?_|fail)
    refine RW.call (rWithout m _ i hi (by omega) D _ (RL.to' hl)) ?_
    rintro _ _ ⟨w1, rfl, N1, rfl, hr1⟩
    have sw1 := hr1.sng
    refine pinOld ?_
    repeat' (first|refine Gi0 fun _=>?_|refine Gi1 ?_|refine Gi2 (fun _=>?_) fun _=>?_|refine Gi3 ?_|refine Gi4 fun _=>?_|fail)
    refine RW.call (rNone o _ _ hb.to) ?_
    rintro _ _ ⟨rfl, rfl⟩
    refine pinOld ?_
    by_cases d : noneO o
    ·rw [if_pos ⟨d, by simp [c]⟩, hwi] at e0
     rw [e0, decide_eq_true d]
     clear e0
     repeat' (first|refine Gi0 fun _=>?_|refine Gi1 ?_|refine Gi2 (fun _=>?_) fun _=>?_|refine Gi3 ?_|refine Gi4 fun _=>?_|fail)
     refine bodyK.ret (Res.of2 Tryz.results63) ⟨{ m with L := m.L.take i ++ m.L.drop (i + 1) }, w1, _, rfl, Pre.out, sw1, fun h => ⟨rfl, ?_⟩⟩
     refine RL.to' (hm := ⟨fun q hq => ?_⟩) hr1
     simp only [List.mem_append, List.mem_cons] at hq ⊢
     rcases hq with h | h <;> simp [h]
    ·rw [if_neg fun h => d h.1] at e0
     rw [e0, decide_eq_false d]
     clear e0
     repeat' (first|refine Gi0 fun _=>?_|refine Gi1 ?_|refine Gi2 (fun _=>?_) fun _=>?_|refine Gi3 ?_|refine Gi4 fun _=>?_|fail)
     exact bodyK.ret (Res.of2 Tryz.results63) ⟨{ m with L := m.L.take i ++ m.L.drop (i + 1) }, w1, _, rfl, Pre.out, sw1, fun h => (by cases h)⟩
   ·rw [if_neg fun h => c (by simpa using h.2)] at e0
    rw [e0]
    clear e0
    repeat' (first|refine Gi0 fun _=>?_|refine Gi1 ?_|refine Gi2 (fun _=>?_) fun _=>?_|refine Gi3 ?_|refine Gi4 fun _=>?_|fail)
    refine RW.call (rWithout m _ i hi (by omega) D _ (RL.to' hl)) ?_
    rintro _ _ ⟨w1, rfl, N1, rfl, hr1⟩
    have sw1 := hr1.sng
    refine pinOld ?_
    repeat' (first|refine Gi0 fun _=>?_|refine Gi1 ?_|refine Gi2 (fun _=>?_) fun _=>?_|refine Gi3 ?_|refine Gi4 fun _=>?_|fail)
    exact bodyK.ret (Res.of2 Tryz.results63) ⟨{ m with L := m.L.take i ++ m.L.drop (i + 1) }, w1, _, rfl, Pre.out, sw1, fun h => (by cases h)⟩
 by_cases h4 : x.kind = 4
 ·have e0 : Md.step m x o = Md.realloc m x o := by unfold Md.step; rw [if_neg h1, if_neg h2, if_neg h3, if_pos h4]
  rw [e0]
  clear e0
  repeat' (first|refine Gi0 fun _=>?_|refine Gi1 ?_|refine Gi2 (fun _=>?_) fun _=>?_|refine Gi3 ?_|refine Gi4 fun _=>?_|fail)
  refine OW.call (rRealloc m hwf _ x hxr o _ _ ii hor D _ (RL.to' hl) hb.to) ?_
  rintro _ _ ⟨m', v', N, rfl, rfl, sv', hr⟩
  generalize Md.realloc m x o = r at *
  obtain ⟨r1, r2⟩ := r
  simp only at hr ⊢
  repeat' (first|refine Gi0 fun _=>?_|refine Gi1 ?_|refine Gi2 (fun _=>?_) fun _=>?_|refine Gi3 ?_|refine Gi4 fun _=>?_|fail)
  refine bodyK.ret (Res.of2 Tryz.results63) ⟨m', v', _, rfl, Pre.out, sv', fun h => ⟨(hr h).1, ?_⟩⟩
  refine RL.to' (hm := ⟨fun q hq => ?_⟩) (hr h).2
  simp only [List.mem_append, List.mem_cons] at hq ⊢
  rcases hq with h | h <;> simp [h]
 by_cases h5 : x.kind = 5
 ·have e0 : Md.step m x o = match m.find x.ad with | none => (m, decide (bareO o [320])) | some p => (m, decide (o.errno = 0 ∧ o.ad = 0 ∧ o.bytes = [] ∧ o.n = p.room)) := by unfold Md.step; rw [if_neg h1, if_neg h2, if_neg h3, if_neg h4, if_pos h5]; rfl
  repeat' (first|refine Gi0 fun _=>?_|refine Gi1 ?_|refine Gi2 (fun _=>?_) fun _=>?_|refine Gi3 ?_|refine Gi4 fun _=>?_|fail)
  refine OW.call (rFind m _ x.ad had _ (RL.to' hl)) ?_
  rintro _ _ ⟨⟨j, rfl, hj⟩, rfl⟩
  rcases find_pl hwf hj with ⟨rfl, hi⟩ | ⟨i, hi, rfl, hs, hpa⟩
  ·rw [hi] at e0
   have hbr := bare_step e0
   by_cases c : o.errno = 320
   ·rw [hbr.2 c]
    clear hbr e0
    repeat' (first|refine Gi0 fun _=>?_|refine Gi1 ?_|refine Gi2 (fun _=>?_) fun _=>?_|refine Gi3 ?_|refine Gi4 fun _=>?_|fail)
    refine RW.call (rNone o _ _ hb.to) ?_
    rintro _ _ ⟨rfl, rfl⟩
    refine pinOld ?_
    generalize decide (noneO o) = bb
    repeat' (first|refine Gi0 fun _=>?_|refine Gi1 ?_|refine Gi2 (fun _=>?_) fun _=>?_|refine Gi3 ?_|refine Gi4 fun _=>?_|fail)
    exact bodyK.retD L (Res.of2 Tryz.results63) (hsame bb)
   ·rw [hbr.1 c]
    clear hbr e0
    repeat' (first|refine Gi0 fun _=>?_|refine Gi1 ?_|refine Gi2 (fun _=>?_) fun _=>?_|refine Gi3 ?_|refine Gi4 fun _=>?_|fail)
    exact bodyK.retD L (Res.of2 Tryz.results63) (hsame false)
  ·rw [hs] at e0
   simp only at e0
   obtain ⟨bk, kk, capk, lk, ek, frk, hbe, hbin, hbc, hbn⟩ := hl.open (by omega)
   cases hbe
   have hbin' : InC L bk (.cells lk.toArray ek frk) := ⟨hD.out _ hbin.out⟩
   obtain ⟨cc, hcut, vq, rfl, hrd⟩ := hbn i hi
   have sq := hrd.sng
   obtain ⟨n0, n1, n2, n3⟩ := cut4 hcut
   generalize m.L[i] = p at *
   by_cases c : o.errno = 0 ∧ o.ad = 0 ∧ o.n = p.room ∧ o.bytes.length = 0
   ·obtain ⟨c1, c2, c3, c4⟩ := c
    have c4' := List.eq_nil_of_length_eq_zero c4
    rw [decide_eq_true ⟨c1, c2, c4', c3⟩] at e0
    rw [e0]
    clear e0
    repeat' (first|refine Gi0 fun _=>?_|refine Gi1 ?_|refine Gi2 (fun _=>?_) fun _=>?_|refine Gi3 ?_|refine Gi4 fun _=>?_|fail)
    exact bodyK.retD L (Res.of2 Tryz.results63) (hsame true)
   ·rw [decide_eq_false fun h => c ⟨h.1, h.2.1, h.2.2.2, by rw [h.2.2.1]; rfl⟩] at e0
    rw [e0]
    clear e0
    by_cases c1 : o.errno = 0
    ·by_cases c2 : o.ad = 0
     ·by_cases c3 : o.n = p.room
      ·have c4 : ¬ o.bytes.length = 0 := fun h => c ⟨c1, c2, c3, h⟩
       repeat' (first|refine Gi0 fun _=>?_|refine Gi1 ?_|refine Gi2 (fun _=>?_) fun _=>?_|refine Gi3 ?_|refine Gi4 fun _=>?_|fail)
       exact bodyK.retD L (Res.of2 Tryz.results63) (hsame false)
      ·repeat' (first|refine Gi0 fun _=>?_|refine Gi1 ?_|refine Gi2 (fun _=>?_) fun _=>?_|refine Gi3 ?_|refine Gi4 fun _=>?_|fail)
       exact bodyK.retD L (Res.of2 Tryz.results63) (hsame false)
     ·repeat' (first|refine Gi0 fun _=>?_|refine Gi1 ?_|refine Gi2 (fun _=>?_) fun _=>?_|refine Gi3 ?_|refine Gi4 fun _=>?_|fail)
      exact bodyK.retD L (Res.of2 Tryz.results63) (hsame false)
    ·repeat' (first|refine Gi0 fun _=>?_|refine Gi1 ?_|refine Gi2 (fun _=>?_) fun _=>?_|refine Gi3 ?_|refine Gi4 fun _=>?_|fail)
     exact bodyK.retD L (Res.of2 Tryz.results63) (hsame false)
 repeat' (first|refine Gi0 fun _=>?_|refine Gi1 ?_|refine Gi2 (fun _=>?_) fun _=>?_|refine Gi3 ?_|refine Gi4 fun _=>?_|fail)
 refine OW.call (rAccess m hwf _ x hxr (by omega) o _ _ hor D _ (RL.to' hl) hvx.to hb.to) ?_
 rintro _ _ ⟨m', v', N, rfl, rfl, sv', hr⟩
 generalize Md.step m x o = r at *
 obtain ⟨r1, r2⟩ := r
 simp only at hr ⊢
 repeat' (first|refine Gi0 fun _=>?_|refine Gi1 ?_|refine Gi2 (fun _=>?_) fun _=>?_|refine Gi3 ?_|refine Gi4 fun _=>?_|fail)
 refine bodyK.ret (Res.of2 Tryz.results63) ⟨m', v', _, rfl, Pre.out, sv', fun h => ⟨(hr h).1, ?_⟩⟩
 refine RL.to' (hm := ⟨fun q hq => ?_⟩) (hr h).2
 simp only [List.mem_append, List.mem_cons] at hq ⊢
 rcases hq with h | h <;> simp [h]
end Go.Proofs.YtmnhooepaemlcaaGreat
