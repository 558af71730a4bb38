/- OrderCalls: true for every input; arguments as before. Part 33. Conditions: none. -/
import Derived.Test.YtmnhooepaemlcaaGreatOC2
import Derived.Test.YtmnhooepaemlcaaGreatOC32
set_option linter.all false
namespace Go.Proofs.YtmnhooepaemlcaaGreat
open Go Go.Pw Go.Pw.Sc Go.Pw.Md
set_option maxRecDepth 100000
set_option maxHeartbeats 4000000
set_option synthInstance.maxHeartbeats 400000
set_option synthInstance.maxSize 2000
attribute [local irreducible] CW OW RW thenK blockK
attribute [local irreducible] scopeK loopK TRW ATW
theorem handed_max (m : Mod) (nd : NeedM) (s mult less : Int) (o : OutM) (b : List Int) : handed m nd (max 1 s) mult less o b = handed m nd s mult less o b := by
 have e : piece o.ad (max 1 s) nd.charge b = piece o.ad s nd.charge b := by unfold piece; rw [show max 1 (max 1 s) = max 1 s by omega]
 unfold handed
 rw [e]
theorem without_rise {l : List Pc} (h : l.Pairwise fun p q => p.ad < q.ad) {i : Nat} (hi : i < l.length) : l.filter (fun q => decide (q.ad ≠ l[i].ad)) = l.take i ++ l.drop (i + 1) := by
 have h2 := split_at hi
 generalize l.take i = A at *
 generalize l.drop (i + 1) = B at *
 generalize l[i] = p at *
 rw [h2] at h ⊢
 exact filter_split h
theorem handed_rise {m : Mod} (hwf : WF m) {nd : NeedM} {size mult less : Int} {o : OutM} {b : List Int} (h0 : 0 ≤ o.ad) (hc : 1 ≤ nd.charge) (he : o.errno = 0) (h : (handed m nd size mult less o b).2 = true) :
  (handed m nd size mult less o b).1.L = ins (piece o.ad size nd.charge b) m.L ∧ (ins (piece o.ad size nd.charge b) m.L).Pairwise fun p q => p.ad < q.ad := by
 unfold handed at *
 split
 ·rename_i h1
  rw [if_pos h1] at h
  have := of_decide_eq_true h
  simp only [bareO, List.mem_singleton] at this
  omega
 ·rename_i h1
  rw [if_neg h1, if_neg (fun h => h he)] at h
  rw [if_neg (fun h => h he)]
  split
  ·rename_i h2
   refine ⟨rfl, ?_⟩
   have h3 := ins_apart (p := piece o.ad size nd.charge b) hwf.apart hwf.ok (fun q hq => h2.2.2.2.2.2.2 q hq) hc
   refine List.Pairwise.imp_of_mem (fun {p q} hp hq hpq => ?_) h3
   rcases List.mem_cons.1 ((ins_perm _ _).mem_iff.1 hp) with rfl | hp
   ·have : (piece o.ad size nd.charge b).room = nd.charge := rfl
    omega
   ·have := (hwf.ok p hp).room
    omega
  ·rename_i h2
   rw [if_neg h2] at h
   cases h
theorem rRealloc (m : Mod) (hwf : WF m) (v : Value) (x : OpM) (hxr : OpR x) (o : OutM) (vx vb : Value) (sx : Sng vx) (hor : OutR o) (D L : Chunk) [hD : MemC D L] (hl : RL D v m.L) (hb : BS L vb o.bytes) :
  Fn1 Tryz.prog 124 [mV m v, opV x vx, outV o vb] L (DoR D L (Md.realloc m x o)) := by
 have hlen := wf_len2 hwf
 have hl' := hl
 obtain ⟨av, cv, rfl⟩ := hl'.slice
 have hb' := hb
 obtain ⟨ab, cb, rfl⟩ := hb'.slice
 have hsame := fun b => DoR.same (L := L) (m := m) (b := b) hl
 have hsz := hxr.size
 obtain ⟨z1, z2⟩ := hsz
 have had := hor.ad
 obtain ⟨d1, d2⟩ := had
 intro w0; refine Spec.enter3 Tryz.func124 rfl Tryz.ntmps124 (by decide) ?_
 have z3:DrS 3 6 [0,1,2,3,4,5,6,7,8,9]:=⟨⟨⟩⟩; have z6:DrS 6 6 [0,1,2,3,4,5,6,7,8,9]:=⟨⟨⟩⟩; have z14:DrS 14 6 [0,1,3,2,4,5,6]:=⟨⟨⟩⟩; have z15:DrT 15 (.fork [0, 1, 2, 3, 4, 5, 6, 7, 8, 9, 10, 11, 12] 13 17 (.leaf [14, 15, 16, 17, 18, 19]) (.leaf [13, 14, 15, 16, 18, 19])):=⟨⟨⟩⟩; have z17:DrC 17 [] [0, 1, 2, 3, 4, 5] 6 []:=⟨⟨⟩⟩
 have e0 : Md.realloc m x o = match m.find x.ad with
  | none => (m, decide (bareO o [320]))
  | some p => match needOf x.size 1 with
   | none => (m, decide (bareO o [2]))
   | some nd =>
    if nd.small = false ∧ (site (p.ad / 256)).1 = 3 ∧ p.room = nd.charge then
     if o.errno = 0 ∧ o.ad = p.ad ∧ o.n = 0 ∧ o.bytes = [] then ({ m with L := m.L.map fun q => if q.ad = p.ad then { q with size := max 1 x.size } else q }, true) else (m, false)
    else
     if (handed m nd x.size 1 p.room o (p.b.take (min p.size (max 1 x.size)).toNat)).2 = true ∧ o.errno = 0 then ((handed m nd x.size 1 p.room o (p.b.take (min p.size (max 1 x.size)).toNat)).1.without p.ad, true) else handed m nd x.size 1 p.room o (p.b.take (min p.size (max 1 x.size)).toNat) := rfl
 repeat' (first|refine Gj0 fun _=>?_|refine Gj1 ?_|refine TRW.fork ?_|refine TRW.leaf ?_|refine TRW.both ?_ ?_|refine Gj2 (fun _=>?_) fun _=>?_|refine Gj3 ?_|refine Gj4 fun _=>?_|fail)
 rename_i b3 b4 b5 b6
 refine OW.call (rFind m _ x.ad hxr.ad _ (RL.to' hl)) ?_
 rintro _ _ ⟨⟨j, rfl, hj⟩, rfl⟩
 have bare : ∀ (c : Int), Md.realloc m x o = (m, decide (bareO o [c])) → (o.errno ≠ c → Md.realloc m x o = (m, false)) ∧ (o.errno = c → Md.realloc m x o = (m, decide (noneO o))) := fun c h => ⟨fun g => by rw [h, decide_eq_false (fun hh => g (by simpa using hh.2))], fun g => by rw [h]; congr 2; simp [bareO, g]⟩
 rcases find_pl hwf hj with ⟨rfl, hi⟩ | ⟨i, hi, rfl, hs, hpa⟩
 ·rw [hi] at e0
  have hbr := bare 320 e0
  by_cases c : o.errno = 320
  ·rw [hbr.2 c]
   clear hbr bare e0
   repeat' (first|refine Gj0 fun _=>?_|refine Gj1 ?_|refine TRW.fork ?_|refine TRW.leaf ?_|refine TRW.both ?_ ?_|refine Gj2 (fun _=>?_) fun _=>?_|refine Gj3 ?_|refine Gj4 fun _=>?_|fail)
   refine RW.call (rNone o _ _ hb.to) ?_
   rintro _ _ ⟨rfl, rfl⟩
   refine pinOld ?_
   generalize decide (noneO o) = bb
   repeat' (first|refine Gj0 fun _=>?_|refine Gj1 ?_|refine TRW.fork ?_|refine TRW.leaf ?_|refine TRW.both ?_ ?_|refine Gj2 (fun _=>?_) fun _=>?_|refine Gj3 ?_|refine Gj4 fun _=>?_|fail)
   exact bodyK.retD L (Res.of2 Tryz.results124) (hsame bb)
  ·rw [hbr.1 c]
   clear hbr bare e0
   repeat' (first|refine Gj0 fun _=>?_|refine Gj1 ?_|refine TRW.fork ?_|refine TRW.leaf ?_|refine TRW.both ?_ ?_|refine Gj2 (fun _=>?_) fun _=>?_|refine Gj3 ?_|refine Gj4 fun _=>?_|fail)
   exact bodyK.retD L (Res.of2 Tryz.results124) (hsame false)
 rw [hs] at e0
 simp only at e0
 repeat' (first|refine Gj0 fun _=>?_|refine Gj1 ?_|refine TRW.fork ?_|refine TRW.leaf ?_|refine TRW.both ?_ ?_|refine Gj2 (fun _=>?_) fun _=>?_|refine Gj3 ?_|refine Gj4 fun _=>?_|fail)
 refine OW.call (rSize x.size 1 ⟨z1, z2⟩ _) ?_
 rintro _ _ ⟨rfl, rfl⟩
 cases hnd : needOf x.size 1 with
 | none =>
  rw [hnd] at e0
  have hbr := bare 2 e0
  by_cases c : o.errno = 2
  ·rw [hbr.2 c]
   clear hbr bare e0
   repeat' (first|refine Gj0 fun _=>?_|refine Gj1 ?_|refine TRW.fork ?_|refine TRW.leaf ?_|refine TRW.both ?_ ?_|refine Gj2 (fun _=>?_) fun _=>?_|refine Gj3 ?_|refine Gj4 fun _=>?_|fail)
   refine RW.call (rNone o _ _ hb.to) ?_
   rintro _ _ ⟨rfl, rfl⟩
   refine pinOld ?_
   generalize decide (noneO o) = bb
   repeat' (first|refine Gj0 fun _=>?_|refine Gj1 ?_|refine TRW.fork ?_|refine TRW.leaf ?_|refine TRW.both ?_ ?_|refine Gj2 (fun _=>?_) fun _=>?_|refine Gj3 ?_|refine Gj4 fun _=>?_|fail)
   exact bodyK.retD L (Res.of2 Tryz.results124) (hsame bb)
  ·rw [hbr.1 c]
   clear hbr bare e0
   repeat' (first|refine Gj0 fun _=>?_|refine Gj1 ?_|refine TRW.fork ?_|refine TRW.leaf ?_|refine TRW.both ?_ ?_|refine Gj2 (fun _=>?_) fun _=>?_|refine Gj3 ?_|refine Gj4 fun _=>?_|fail)
   exact bodyK.retD L (Res.of2 Tryz.results124) (hsame false)
 | some nd =>
  rw [hnd] at e0
  simp only at e0
  clear bare
  obtain ⟨g1, g2, g3⟩ := needOf_charge hnd
  have hsmall : x.size ≤ 262144 := by
   unfold needOf at hnd
   split at hnd
   ·cases hnd
   ·omega
  obtain ⟨bk, kk, capk, lk, ek, frk, hbe, hbin, hbc, hbn⟩ := hl.open (by omega)
  cases hbe
  have hbin' : InC L bk (.cells lk.toArray ek frk) := ⟨hD.out _ hbin.out⟩
  obtain ⟨cc, hcut, vq, rfl, hrd⟩ := hbn i hi
  have sq := hrd.sng
  obtain ⟨n0, n1, n2, n3⟩ := cut4 hcut
  have hpm := List.getElem_mem hi
  have okp := hwf.ok _ hpm
  have o1 := okp.ad
  have o2 := okp.room
  have o3 := okp.fin
  have o4 := okp.len
  have o5 := okp.size1
  have o6 := okp.size2
  have hwi := without_at hwf hi
  have him := ins_map hwf hi (max 1 x.size)
  have hpls : ∀ (l : List Pc) (j : Int), (∀ q ∈ m.L, q ∈ l) → PlR (fun q => q.ad = m.L[i].ad) l j → ∃ k : Nat, ∃ hk : k < l.length, j = k ∧ l[k].ad = m.L[i].ad := fun l j hsub h => by
   rcases h with ⟨_, h⟩ | ⟨k, hk, rfl, h⟩
   ·exact absurd rfl (h _ (hsub _ hpm))
   ·exact ⟨k, hk, rfl, h⟩
  rw [hwi] at him
  clear hs hpa hwi hj
  generalize m.L[i] = p at *
  obtain ⟨small, cls, pages, charge⟩ := nd
  simp only at g1 g2 g3
  repeat' (first|refine Gj0 fun _=>?_|refine Gj1 ?_|refine TRW.fork ?_|refine TRW.leaf ?_|refine TRW.both ?_ ?_|refine Gj2 (fun _=>?_) fun _=>?_|refine Gj3 ?_|refine Gj4 fun _=>?_|fail)
  generalize hn : max 1 x.size = n at *
  refine OW.call (rSite (p.ad / 256) (by omega) _) ?_
  rintro _ _ ⟨⟨cx, qx, rfl⟩, rfl⟩
  generalize site (p.ad / 256) = st at *
  obtain ⟨k, sl⟩ := st
  simp only at e0 ⊢
  by_cases c : small = false ∧ k = 3 ∧ p.room = charge
  ·rw [if_pos c] at e0
   obtain ⟨rfl, rfl, cr⟩ := c
   have bad : ¬ (o.errno = 0 ∧ o.ad = p.ad ∧ o.n = 0 ∧ o.bytes = []) → Md.realloc m x o = (m, false) := fun h => by rw [e0, if_neg h]
   by_cases h1 : o.errno = 0
   ·by_cases h2 : o.ad = p.ad
    ·by_cases h3 : o.n = 0
     ·by_cases h4 : o.bytes.length = 0
      ·rw [if_pos ⟨h1, h2, h3, List.eq_nil_of_length_eq_zero h4⟩] at e0
       rw [e0]
       clear bad e0
       repeat' (first|refine Gj0 fun _=>?_|refine Gj1 ?_|refine TRW.fork ?_|refine TRW.leaf ?_|refine TRW.both ?_ ?_|refine Gj2 (fun _=>?_) fun _=>?_|refine Gj3 ?_|refine Gj4 fun _=>?_|fail)
       refine RW.call (rWithout m _ i hi (by omega) D _ (RL.to' hl)) ?_
       rintro _ _ ⟨w1, rfl, N1, rfl, hr1⟩
       have sw1 := hr1.sng
       refine pinOld ?_
       repeat' (first|refine Gj0 fun _=>?_|refine Gj1 ?_|refine TRW.fork ?_|refine TRW.leaf ?_|refine TRW.both ?_ ?_|refine Gj2 (fun _=>?_) fun _=>?_|refine Gj3 ?_|refine Gj4 fun _=>?_|fail)
       refine RW.call (rWith (hD := ⟨fun q hq => by
        have := hD.out
        simp only [List.mem_append, List.mem_cons] at hq ⊢
        rcases hq with h | h
        ·simp [h]
        ·simp [this _ h]⟩) ⟨m.slot, m.quota, m.L.take i ++ m.L.drop (i + 1)⟩ w1 ⟨p.ad, n, p.room, p.b⟩ vq (by simp; omega) (N1 ++ D) _ hr1 hrd.to) ?_
       rintro _ _ ⟨w2, rfl, N2, rfl, hr2⟩
       have sw2 := hr2.sng
       refine pinOld ?_
       repeat' (first|refine Gj0 fun _=>?_|refine Gj1 ?_|refine TRW.fork ?_|refine TRW.leaf ?_|refine TRW.both ?_ ?_|refine Gj2 (fun _=>?_) fun _=>?_|refine Gj3 ?_|refine Gj4 fun _=>?_|fail)
       rw [← him]
       refine bodyK.ret (Res.of2 Tryz.results124) ⟨{ m with L := ins ⟨p.ad, n, p.room, p.b⟩ (m.L.take i ++ m.L.drop (i + 1)) }, w2, _, rfl, Pre.out, sw2, fun _ => ⟨rfl, ?_⟩⟩
       refine RL.to' (hm := ⟨fun q hq => ?_⟩) hr2
       simp only [List.mem_append, List.mem_cons] at hq ⊢
       rcases hq with h | h | h <;> simp [h]
      ·rw [bad fun h => h4 (by rw [h.2.2.2]; rfl)]
       clear bad e0
       repeat' (first|refine Gj0 fun _=>?_|refine Gj1 ?_|refine TRW.fork ?_|refine TRW.leaf ?_|refine TRW.both ?_ ?_|refine Gj2 (fun _=>?_) fun _=>?_|refine Gj3 ?_|refine Gj4 fun _=>?_|fail)
       exact bodyK.retD L (Res.of2 Tryz.results124) (hsame false)
     ·rw [bad fun h => h3 h.2.2.1]
      clear bad e0
      repeat' (first|refine Gj0 fun _=>?_|refine Gj1 ?_|refine TRW.fork ?_|refine TRW.leaf ?_|refine TRW.both ?_ ?_|refine Gj2 (fun _=>?_) fun _=>?_|refine Gj3 ?_|refine Gj4 fun _=>?_|fail)
      exact bodyK.retD L (Res.of2 Tryz.results124) (hsame false)
    ·rw [bad fun h => h2 h.2.1]
     clear bad e0
     repeat' (first|refine Gj0 fun _=>?_|refine Gj1 ?_|refine TRW.fork ?_|refine TRW.leaf ?_|refine TRW.both ?_ ?_|refine Gj2 (fun _=>?_) fun _=>?_|refine Gj3 ?_|refine Gj4 fun _=>?_|fail)
     exact bodyK.retD L (Res.of2 Tryz.results124) (hsame false)
   ·rw [bad fun h => h1 h.1]
    clear bad e0
    repeat' (first|refine Gj0 fun _=>?_|refine Gj1 ?_|refine TRW.fork ?_|refine TRW.leaf ?_|refine TRW.both ?_ ?_|refine Gj2 (fun _=>?_) fun _=>?_|refine Gj3 ?_|refine Gj4 fun _=>?_|fail)
    exact bodyK.retD L (Res.of2 Tryz.results124) (hsame false)
  ·rw [if_neg c] at e0
   have hmin : 0 ≤ min p.size n ∧ min p.size n ≤ p.b.length := by omega
   have hsl0 := hrd.sl (lo := 0) (hi := (min p.size n).toNat) (by omega) (by omega)
   have hsl : Rd D 1 (slV vq 0 (min p.size n).toNat 1) (p.b.take (min p.size n).toNat).length (iv (p.b.take (min p.size n).toNat)) := by
    have e1 : (p.b.take (min p.size n).toNat).length = (min p.size n).toNat - 0 := by rw [List.length_take]; omega
    have e2 : ((iv p.b).drop (0 * 1)).take (((min p.size n).toNat - 0) * 1) = iv (p.b.take (min p.size n).toNat) := by simp [iv, List.map_take]
    rw [e1, ← e2]; exact hsl0
   have ssl := hsl.sng
   have hbl : ((p.b.take (min p.size n).toNat).length : Int) ≤ charge := by rw [List.length_take]; omega
   have hdr := handed_rise (size := x.size) (mult := 1) (less := p.room) (b := p.b.take (min p.size n).toNat) hwf (nd := ⟨small, cls, pages, charge⟩) d1 (by simp only; omega) (o := o)
   have hhm : handed m ⟨small, cls, pages, charge⟩ n 1 p.room o (p.b.take (min p.size n).toNat) = handed m ⟨small, cls, pages, charge⟩ x.size 1 p.room o (p.b.take (min p.size n).toNat) := by rw [← hn]; exact handed_max ..
   obtain ⟨aq, kq, hqe, _⟩ := hrd.isSlice
   subst hqe
   cases small with
   | true =>
    repeat' (first|refine Gj0 fun _=>?_|refine Gj1 ?_|refine TRW.fork ?_|refine TRW.leaf ?_|refine TRW.both ?_ ?_|refine Gj2 (fun _=>?_) fun _=>?_|refine Gj3 ?_|refine Gj4 fun _=>?_|fail)
    refine RW.slHi (h' := (min p.size n).toNat) (j := min p.size n) (hj := ⟨rfl⟩) hrd (by omega) ?_
    repeat' (first|refine Gj0 fun _=>?_|refine Gj1 ?_|refine TRW.fork ?_|refine TRW.leaf ?_|refine TRW.both ?_ ?_|refine Gj2 (fun _=>?_) fun _=>?_|refine Gj3 ?_|refine Gj4 fun _=>?_|fail)
    all_goals (
     refine RW.call (rHanded m hwf _ ⟨true, cls, pages, charge⟩ n 1 p.room o _ (p.b.take (min p.size n).toNat) _ hor ⟨by simp only; omega, g3⟩ hbl ⟨by omega, by omega⟩ (by decide) ⟨by omega, by omega⟩ D _ (RL.to' hl) hb.to hsl) ?_
     rintro _ _ ⟨m', v', N, rfl, rfl, sv', hr⟩
     generalize hgr : handed m ⟨true, cls, pages, charge⟩ n 1 p.room o (p.b.take (min p.size n).toNat) = r at hr ⊢
     rw [hhm] at hgr
     rw [hgr] at e0 hdr
     clear hgr hhm
     obtain ⟨r1, r2⟩ := r
     simp only at e0 hr hdr ⊢
     refine pinOld ?_
     cases r2 with
     | false =>
      rw [e0, if_neg (by simp)]
      clear e0 hdr hr
      repeat' (first|refine Gj0 fun _=>?_|refine Gj1 ?_|refine TRW.fork ?_|refine TRW.leaf ?_|refine TRW.both ?_ ?_|refine Gj2 (fun _=>?_) fun _=>?_|refine Gj3 ?_|refine Gj4 fun _=>?_|fail)
      exact bodyK.ret (Res.of2 Tryz.results124) ⟨m', v', _, rfl, Pre.out, sv', fun h => (by cases h)⟩
     | true =>
      obtain ⟨rfl, hrl⟩ := hr rfl
      clear hr
      by_cases he : o.errno = 0
      ·obtain ⟨hL, hrise⟩ := hdr he rfl
       rw [if_pos ⟨rfl, he⟩] at e0
       rw [e0]
       clear e0 hdr
       repeat' (first|refine Gj0 fun _=>?_|refine Gj1 ?_|refine TRW.fork ?_|refine TRW.leaf ?_|refine TRW.both ?_ ?_|refine Gj2 (fun _=>?_) fun _=>?_|refine Gj3 ?_|refine Gj4 fun _=>?_|fail)
       refine RW.call (rFind m' v' p.ad ⟨by omega, by omega⟩ _ (RL.to' (hm := ⟨fun q hq => by
        have := hD.out
        simp only [List.mem_append, List.mem_cons] at hq ⊢
        rcases hq with h | h
        ·simp [h]
        ·simp [this _ h]⟩) hrl)) ?_
       rintro _ _ ⟨⟨j, rfl, hj⟩, rfl⟩
       obtain ⟨kf, hkf, rfl, hka⟩ := hpls m'.L j (fun q hq => by rw [hL]; exact (ins_perm _ _).mem_iff.2 (List.mem_cons_of_mem _ hq)) hj
       have hlenm : m'.L.length ≤ 1073741825 := by rw [hL, (ins_perm _ _).length_eq, List.length_cons]; omega
       refine pinOld ?_
       repeat' (first|refine Gj0 fun _=>?_|refine Gj1 ?_|refine TRW.fork ?_|refine TRW.leaf ?_|refine TRW.both ?_ ?_|refine Gj2 (fun _=>?_) fun _=>?_|refine Gj3 ?_|refine Gj4 fun _=>?_|fail)
       refine RW.call (rWithout (hD := ⟨fun q hq => by
        have := hD.out
        simp only [List.mem_append, List.mem_cons] at hq ⊢
        rcases hq with h | h
        ·simp [h]
        ·simp [this _ h]⟩) m' v' kf hkf hlenm (N ++ D) _ hrl) ?_
       rintro _ _ ⟨w1, rfl, N1, rfl, hr1⟩
       have sw1 := hr1.sng
       refine pinOld ?_
       have hwo : m'.without p.ad = { m' with L := m'.L.take kf ++ m'.L.drop (kf + 1) } := by
        unfold Mod.without
        congr 1
        rw [← hka]
        exact without_rise (by rw [hL]; exact hrise) hkf
       rw [hwo]
       repeat' (first|refine Gj0 fun _=>?_|refine Gj1 ?_|refine TRW.fork ?_|refine TRW.leaf ?_|refine TRW.both ?_ ?_|refine Gj2 (fun _=>?_) fun _=>?_|refine Gj3 ?_|refine Gj4 fun _=>?_|fail)
       refine bodyK.ret (Res.of2 Tryz.results124) ⟨{ m' with L := m'.L.take kf ++ m'.L.drop (kf + 1) }, w1, _, rfl, Pre.out, sw1, fun _ => ⟨rfl, ?_⟩⟩
       refine RL.to' (hm := ⟨fun q hq => ?_⟩) hr1
       simp only [List.mem_append, List.mem_cons] at hq ⊢
       rcases hq with h | h | h <;> simp [h]
      ·rw [if_neg (by rintro ⟨_, h⟩; exact he h)] at e0
       rw [e0]
       clear e0 hdr
       repeat' (first|refine Gj0 fun _=>?_|refine Gj1 ?_|refine TRW.fork ?_|refine TRW.leaf ?_|refine TRW.both ?_ ?_|refine Gj2 (fun _=>?_) fun _=>?_|refine Gj3 ?_|refine Gj4 fun _=>?_|fail)
       refine bodyK.ret (Res.of2 Tryz.results124) ⟨m', v', _, rfl, Pre.out, sv', fun _ => ⟨rfl, ?_⟩⟩
       refine RL.to' (hm := ⟨fun q hq => ?_⟩) hrl
       simp only [List.mem_append, List.mem_cons] at hq ⊢
       rcases hq with h | h <;> simp [h])
   | false =>
    have c' : ¬ (k = 3 ∧ p.room = charge) := fun h => c ⟨rfl, h.1, h.2⟩
    by_cases ck : k = 3
    all_goals (
     repeat' (first|refine Gj0 fun _=>?_|refine Gj1 ?_|refine TRW.fork ?_|refine TRW.leaf ?_|refine TRW.both ?_ ?_|refine Gj2 (fun _=>?_) fun _=>?_|refine Gj3 ?_|refine Gj4 fun _=>?_|fail)
     refine RW.slHi (h' := (min p.size n).toNat) (j := min p.size n) (hj := ⟨rfl⟩) hrd (by omega) ?_
     repeat' (first|refine Gj0 fun _=>?_|refine Gj1 ?_|refine TRW.fork ?_|refine TRW.leaf ?_|refine TRW.both ?_ ?_|refine Gj2 (fun _=>?_) fun _=>?_|refine Gj3 ?_|refine Gj4 fun _=>?_|fail)
     all_goals (
      refine RW.call (rHanded m hwf _ ⟨false, cls, pages, charge⟩ n 1 p.room o _ (p.b.take (min p.size n).toNat) _ hor ⟨by simp only; omega, g3⟩ hbl ⟨by omega, by omega⟩ (by decide) ⟨by omega, by omega⟩ D _ (RL.to' hl) hb.to hsl) ?_
      rintro _ _ ⟨m', v', N, rfl, rfl, sv', hr⟩
      generalize hgr : handed m ⟨false, cls, pages, charge⟩ n 1 p.room o (p.b.take (min p.size n).toNat) = r at hr ⊢
      rw [hhm] at hgr
      rw [hgr] at e0 hdr
      clear hgr hhm
      obtain ⟨r1, r2⟩ := r
      simp only at e0 hr hdr ⊢
      refine pinOld ?_
      cases r2 with
      | false =>
       rw [e0, if_neg (by simp)]
       clear e0 hdr hr
       repeat' (first|refine Gj0 fun _=>?_|refine Gj1 ?_|refine TRW.fork ?_|refine TRW.leaf ?_|refine TRW.both ?_ ?_|refine Gj2 (fun _=>?_) fun _=>?_|refine Gj3 ?_|refine Gj4 fun _=>?_|fail)
       exact bodyK.ret (Res.of2 Tryz.results124) ⟨m', v', _, rfl, Pre.out, sv', fun h => (by cases h)⟩
      | true =>
       obtain ⟨rfl, hrl⟩ := hr rfl
       clear hr
       by_cases he : o.errno = 0
       ·obtain ⟨hL, hrise⟩ := hdr he rfl
        rw [if_pos ⟨rfl, he⟩] at e0
        rw [e0]
        clear e0 hdr
        repeat' (first|refine Gj0 fun _=>?_|refine Gj1 ?_|refine TRW.fork ?_|refine TRW.leaf ?_|refine TRW.both ?_ ?_|refine Gj2 (fun _=>?_) fun _=>?_|refine Gj3 ?_|refine Gj4 fun _=>?_|fail)
        refine RW.call (rFind m' v' p.ad ⟨by omega, by omega⟩ _ (RL.to' (hm := ⟨fun q hq => by
         have := hD.out
         simp only [List.mem_append, List.mem_cons] at hq ⊢
         rcases hq with h | h
         ·simp [h]
         ·simp [this _ h]⟩) hrl)) ?_
        rintro _ _ ⟨⟨j, rfl, hj⟩, rfl⟩
        obtain ⟨kf, hkf, rfl, hka⟩ := hpls m'.L j (fun q hq => by rw [hL]; exact (ins_perm _ _).mem_iff.2 (List.mem_cons_of_mem _ hq)) hj
        have hlenm : m'.L.length ≤ 1073741825 := by rw [hL, (ins_perm _ _).length_eq, List.length_cons]; omega
        refine pinOld ?_
        repeat' (first|refine Gj0 fun _=>?_|refine Gj1 ?_|refine TRW.fork ?_|refine TRW.leaf ?_|refine TRW.both ?_ ?_|refine Gj2 (fun _=>?_) fun _=>?_|refine Gj3 ?_|refine Gj4 fun _=>?_|fail)
        refine RW.call (rWithout (hD := ⟨fun q hq => by
         have := hD.out
         simp only [List.mem_append, List.mem_cons] at hq ⊢
         rcases hq with h | h
         ·simp [h]
         ·simp [this _ h]⟩) m' v' kf hkf hlenm (N ++ D) _ hrl) ?_
        rintro _ _ ⟨w1, rfl, N1, rfl, hr1⟩
        have sw1 := hr1.sng
        refine pinOld ?_
        have hwo : m'.without p.ad = { m' with L := m'.L.take kf ++ m'.L.drop (kf + 1) } := by
         unfold Mod.without
         congr 1
         rw [← hka]
         exact without_rise (by rw [hL]; exact hrise) hkf
        rw [hwo]
        repeat' (first|refine Gj0 fun _=>?_|refine Gj1 ?_|refine TRW.fork ?_|refine TRW.leaf ?_|refine TRW.both ?_ ?_|refine Gj2 (fun _=>?_) fun _=>?_|refine Gj3 ?_|refine Gj4 fun _=>?_|fail)
        refine bodyK.ret (Res.of2 Tryz.results124) ⟨{ m' with L := m'.L.take kf ++ m'.L.drop (kf + 1) }, w1, _, rfl, Pre.out, sw1, fun _ => ⟨rfl, ?_⟩⟩
        refine RL.to' (hm := ⟨fun q hq => ?_⟩) hr1
        simp only [List.mem_append, List.mem_cons] at hq ⊢
        rcases hq with h | h | h <;> simp [h]
       ·rw [if_neg (by rintro ⟨_, h⟩; exact he h)] at e0
        rw [e0]
        clear e0 hdr
        repeat' (first|refine Gj0 fun _=>?_|refine Gj1 ?_|refine TRW.fork ?_|refine TRW.leaf ?_|refine TRW.both ?_ ?_|refine Gj2 (fun _=>?_) fun _=>?_|refine Gj3 ?_|refine Gj4 fun _=>?_|fail)
        refine bodyK.ret (Res.of2 Tryz.results124) ⟨m', v', _, rfl, Pre.out, sv', fun _ => ⟨rfl, ?_⟩⟩
        refine RL.to' (hm := ⟨fun q hq => ?_⟩) hrl
        simp only [List.mem_append, List.mem_cons] at hq ⊢
        rcases hq with h | h <;> simp [h]))
end Go.Proofs.YtmnhooepaemlcaaGreat
