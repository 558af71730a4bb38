/- OrderCalls: true for every input; arguments as before. Part 7. Conditions: none. -/
import Derived.Test.YtmnhooepaemlcaaGreatOC2
import Derived.Test.YtmnhooepaemlcaaGreatOC3
import Derived.Test.YtmnhooepaemlcaaGreatOC6
set_option linter.all false
namespace Go.Proofs.YtmnhooepaemlcaaGreat
open Go Go.Pw Go.Pw.Sc Go.Pw.Md
set_option maxRecDepth 100000
set_option maxHeartbeats 4000000
set_option synthInstance.maxHeartbeats 400000
set_option synthInstance.maxSize 2000
attribute [local irreducible] CW OW RW thenK blockK
attribute [local irreducible] scopeK loopK TRW ATW
theorem rowSet {D L : Chunk} {bn b c : Nat} {m : Mod} {p : Pc} {v : Value} {cnd : Prop} [Decidable cnd] {es : List MapEntry} {zs : List (MapEntry × Pc)} (hk : KV .u32 es c) (hz : Zs D es zs) (hp : (zs.map (·.2)).Perm m.L) (hv : Rd D 1 v p.b.length (iv p.b)) :
  RowR D L (if cnd then ({ m with L := m.L.map fun q => if q.ad = p.ad then p else q }, true) else (m, false)) (.tuple #[.pointer (some ⟨bn, 0, none⟩), .bool (decide cnd)]) ((bn, .cells (mcells m b).toArray 142 (0, 0)) :: (b, .map (setE .u32 p.ad (pcV p v) es).toArray c) :: L) := by
 refine ⟨[(bn, .cells (mcells m b).toArray 142 (0, 0)), (b, .map (setE .u32 p.ad (pcV p v) es).toArray c)], bn, b, ?_, rfl, ?_⟩
 ·by_cases h : cnd <;> simp [h]
 ·by_cases h : cnd
  ·rw [if_pos h]
   intro _
   refine ⟨⟨by simp [mcells]⟩, setE .u32 p.ad (pcV p v) es, c, _, ⟨by simp⟩, hk.set, ?_, Zs.set_perm (v := v) hp⟩
   have := Zs.set hz hv
   exact this.to
  ·rw [if_neg h]
   intro h; cases h
theorem rowDel2 {D L N : Chunk} {bn b c : Nat} {m : Mod} {l : List Pc} {a : Int} {es : List MapEntry} {zs : List (MapEntry × Pc)} (hk : KV .u32 es c) (hz : Zs (N ++ D) es zs) (hp : (zs.map (·.2)).Perm l) :
  RowR D L (({ m with L := l } : Mod).without a, true) (.tuple #[.pointer (some ⟨bn, 0, none⟩), .bool true]) ((bn, .cells (mcells m b).toArray 142 (0, 0)) :: (N ++ ((b, .map (delE a es).toArray c) :: L))) := by
 refine ⟨(bn, .cells (mcells m b).toArray 142 (0, 0)) :: (N ++ [(b, .map (delE a es).toArray c)]), bn, b, rfl, by simp, fun _ => ⟨⟨by simp [mcells, Mod.without]⟩, ?_⟩⟩
 have : MemC (N ++ D) ((bn, .cells (mcells m b).toArray 142 (0, 0)) :: (N ++ [(b, .map (delE a es).toArray c)]) ++ D) := ⟨fun p hp => by
  simp only [List.mem_append, List.mem_cons] at hp ⊢
  rcases hp with h | h
  ·exact .inl (.inr (.inl h))
  ·exact .inr h⟩
 exact MRest.del (a := 0) (m := { m with L := l }) ⟨by simp⟩ hk hz.to hp
theorem modelRealloc (bm bp : Nat) (m : Mod) (hwf : WF m) (x : OpM) (hxr : OpR x) (o : OutM) (vx vb : Value) (sx : Sng vx) (D L : Chunk) [hm : InC L bm (.cells (mcells m bp).toArray 142 (0, 0))] [hD : MemC D L] (hr : MRest D bp m)
  (hb : BS L vb o.bytes) (hor : OutR o) : Fn1 Tryz.prog 150 [.pointer (some ⟨bm, 0, none⟩), opV x vx, outV o vb] L (RowR D L (Md.realloc m x o)) := by
 intro w0; refine Spec.enter3 Tryz.func150 rfl Tryz.ntmps150 (by decide) ?_
 have z1:DrP 1 [0,1,2,3,4,5,6,7,8,9,10,11,12]:=⟨⟨⟩⟩; have z10:DrP 10 [0,1,3,4,5,2,6,7,8,9,10,11,12,13,14,15,16,17,18,19,20,21,22,23,24,25,26]:=⟨⟨⟩⟩; have z11:DrP 11 [0,1,2,3,4,5,6,7,8,9,10,11,12,13,14,15,16,17,18,19,20,21,22]:=⟨⟨⟩⟩; have z13:DrP 13 [0,1,2,3,4,5,6,7]:=⟨⟨⟩⟩
 have hm' := hm
 have svb := hb.sng
 have hr0 := hr
 obtain ⟨es, c, zs, h1, hkv, hz, hp⟩ := hr0
 have h1' : InC L bp (.map es.toArray c) := ⟨hD.out _ h1.out⟩
 repeat' (first|refine Gi0 fun _=>?_|refine Gi1 ?_|refine Gi2 (fun _=>?_) fun _=>?_|refine Gi3 ?_|refine Gi4 fun _=>?_|fail)
 rename_i b4 b5
 refine RW.lookOk (m := bp) (c := c) (es := es) hkv.keys (fun v hf => ?_) (fun hf => ?_)
 ·obtain ⟨z, hz', hza, hzv⟩ := hz.find hkv hf
  obtain ⟨_, vz, hzv2, hrd⟩ := hz.at_ z hz'
  have svz := hrd.sng
  rw [← hzv, hzv2]
  obtain ⟨ze, p⟩ := z
  simp only at hza hzv hzv2 hrd ⊢
  have hpm : p ∈ m.L := hp.mem_iff.1 (List.mem_map.2 ⟨_, hz', rfl⟩)
  have okp := hwf.ok p hpm
  have hfm : m.find x.ad = some p := by rw [← hza]; exact find_of hwf hpm
  have est0 : Md.realloc m x o = match needOf x.size 1 with
   | none => (m, decide (bareO o [2]))
   | some nd =>
    if nd.small = false ∧ (site (p.ad / 256)).1 = 3 ∧ p.room = nd.charge then
     if o.errno = 0 ∧ o.ad = p.ad ∧ o.n = 0 ∧ o.bytes = [] then ({ m with L := m.L.map fun q => if q.ad = p.ad then { q with size := max 1 x.size } else q }, true) else (m, false)
    else
     let r := handed m nd x.size 1 p.room o (p.b.take (min p.size (max 1 x.size)).toNat)
     if r.2 = true ∧ o.errno = 0 then (r.1.without p.ad, true) else r := by unfold Md.realloc; rw [hfm]; rfl
  repeat' (first|refine Gi0 fun _=>?_|refine Gi1 ?_|refine Gi2 (fun _=>?_) fun _=>?_|refine Gi3 ?_|refine Gi4 fun _=>?_|fail)
  rename_i b8
  refine OW.call (sizeOf x.size 1 hxr.size.1 (by decide) _) ?_
  rintro _ _ ⟨rfl, rfl⟩
  cases hn : needOf x.size 1 with
  | none =>
   rw [hn] at est0
   repeat' (first|refine Gi0 fun _=>?_|refine Gi1 ?_|refine Gi2 (fun _=>?_) fun _=>?_|refine Gi3 ?_|refine Gi4 fun _=>?_|fail)
   refine OW.call (modelBare o vb _ [2] _ hb.to (Rd.blk (l := iv [2]) rfl (Nat.le_refl _)) (by decide)) ?_
   rintro _ _ ⟨rfl, rfl⟩
   have est : Md.realloc m x o = (m, decide (bareO o [2])) := est0
   generalize hbb : decide (bareO o [2]) = bb at est ⊢
   repeat' (first|refine Gi0 fun _=>?_|refine Gi1 ?_|refine Gi2 (fun _=>?_) fun _=>?_|refine Gi3 ?_|refine Gi4 fun _=>?_|fail)
   refine bodyK.retD L (Res.two Tryz.results150) ?_
   rw [est]
   exact RowR.same (r := (m, bb)) hm hr fun _ => rfl
  | some nd =>
   rw [hn] at est0
   obtain ⟨c1, c2, c3⟩ := needOf_charge hn
   have hs : x.size ≤ 262144 := by
    unfold needOf at hn
    split at hn
    ·cases hn
    ·omega
   have hs0 := hxr.size.1
   have est1 : Md.realloc m x o = if nd.small = false ∧ (site (p.ad / 256)).1 = 3 ∧ p.room = nd.charge then
     (if o.errno = 0 ∧ o.ad = p.ad ∧ o.n = 0 ∧ o.bytes = [] then ({ m with L := m.L.map fun q => if q.ad = p.ad then { q with size := max 1 x.size } else q }, true) else (m, false))
    else
     (let r := handed m nd x.size 1 p.room o (p.b.take (min p.size (max 1 x.size)).toNat)
     if r.2 = true ∧ o.errno = 0 then (r.1.without p.ad, true) else r) := est0
   clear est0
   have hl := okp.len
   have hsz1 := okp.size1
   have hsz2 := okp.size2
   have hfin := okp.fin
   have had0 := okp.ad
   have svzs : ∃ a c, vz = .slice a p.b.length c := by obtain ⟨a, c, h, _⟩ := hrd.isSlice; exact ⟨a, c, h⟩
   repeat' (first|refine Gi0 fun _=>?_|refine Gi1 ?_|refine Gi2 (fun _=>?_) fun _=>?_|refine Gi3 ?_|refine Gi4 fun _=>?_|fail)
   generalize hq : (!nd.small) = q
   cases q with
   | false =>
    have hsm : nd.small = true := by simpa using hq
    have est := est1.trans (if_neg (fun h => by rw [hsm] at h; cases h.1))
    simp only at est
    repeat' (first|refine Gi0 fun _=>?_|refine Gi1 ?_|refine Gi2 (fun _=>?_) fun _=>?_|refine Gi3 ?_|refine Gi4 fun _=>?_|fail)
    obtain ⟨av, cv, rfl⟩ := svzs
    refine RW.y (yl_slHi (h' := (min p.size (max 1 x.size)).toNat) (j := min p.size (max 1 x.size)) ii ii ii ii ⟨rfl⟩ hrd ⟨by omega, by omega⟩) rfl ?_
    have hsl := hrd.sl (lo := 0) (hi := (min p.size (max 1 x.size)).toNat) (by omega) (by omega)
    have hsl2 : Rd D 1 (slV (.slice av p.b.length cv) 0 (min p.size (max 1 x.size)).toNat 1) (p.b.take (min p.size (max 1 x.size)).toNat).length (iv (p.b.take (min p.size (max 1 x.size)).toNat)) := by
     have e1 : (p.b.take (min p.size (max 1 x.size)).toNat).length = (min p.size (max 1 x.size)).toNat - 0 := by rw [List.length_take]; omega
     have e2 : ((iv p.b).drop (0 * 1)).take (((min p.size (max 1 x.size)).toNat - 0) * 1) = iv (p.b.take (min p.size (max 1 x.size)).toNat) := by simp [iv, List.map_take]
     rw [e1, ← e2]; exact hsl
    have ssl := hsl.sng
    repeat' (first|refine Gi0 fun _=>?_|refine Gi1 ?_|refine Gi2 (fun _=>?_) fun _=>?_|refine Gi3 ?_|refine Gi4 fun _=>?_|fail)
    refine RW.call (modelHand bm bp m hwf nd x.size 1 p.room o vb _ (p.b.take (min p.size (max 1 x.size)).toNat) D _ hr hb.to hor hsl2.to ⟨c2, c3⟩ (by rw [List.length_take]; omega) ⟨hs0, hs⟩ (by decide) ⟨by omega, by omega⟩) ?_
    intro u L' hh
    rcases hh with ⟨rfl, rfl, hne⟩ | ⟨he0, h2, bn, b, N, es', c', zs', rfl, rfl, hk', hz2, hp'⟩
    ·refine pinAll ?_
     have est2 : Md.realloc m x o = handed m nd x.size 1 p.room o (p.b.take (min p.size (max 1 x.size)).toNat) := by rw [est, if_neg (fun h => hne h.1 h.2)]
     have hrow : RowR D L (Md.realloc m x o) (.tuple #[.pointer (some ⟨bm, 0, none⟩), .bool (handed m nd x.size 1 p.room o (p.b.take (min p.size (max 1 x.size)).toNat)).2]) L := by
      rw [est2]
      exact RowR.same hm hr fun e => handed_ne (hne e)
     cases hb2 : (handed m nd x.size 1 p.room o (p.b.take (min p.size (max 1 x.size)).toNat)).2 with
     | false =>
      rw [hb2] at hrow
      repeat' (first|refine Gi0 fun _=>?_|refine Gi1 ?_|refine Gi2 (fun _=>?_) fun _=>?_|refine Gi3 ?_|refine Gi4 fun _=>?_|fail)
      exact bodyK.retD L (Res.two Tryz.results150) hrow
     | true =>
      have he := hne hb2
      rw [hb2] at hrow
      repeat' (first|refine Gi0 fun _=>?_|refine Gi1 ?_|refine Gi2 (fun _=>?_) fun _=>?_|refine Gi3 ?_|refine Gi4 fun _=>?_|fail)
      exact bodyK.retD L (Res.two Tryz.results150) hrow
    ·refine pinAll ?_
     have est2 : Md.realloc m x o = ({ m with L := ins (piece o.ad x.size nd.charge (p.b.take (min p.size (max 1 x.size)).toNat)) m.L : Mod }.without p.ad, true) := by rw [est, if_pos ⟨h2, he0⟩, handed_eq he0 h2]
     repeat' (first|refine Gi0 fun _=>?_|refine Hi1 ?_|refine Gi2 (fun _=>?_) fun _=>?_|refine Gi3 ?_|refine Gi4 fun _=>?_|fail)
     refine CW.drawsR [(bn, .cells (mcells m b).toArray 142 (0, 0)), (b8, .cells #[.int .u32 p.ad, .int .i64 p.size, .int .i64 p.room, .slice av p.b.length cv] 152 (0, 0))] [0, 1, 2, 3, 4, 5, 6, 7] mixed (by kernel_rfl) ?_
     repeat' (first|refine Gi0 fun _=>?_|refine Hi1 ?_|refine Gi2 (fun _=>?_) fun _=>?_|refine Gi3 ?_|refine Gi4 fun _=>?_|fail)
     refine RW.mapDel (m := b) (k := .u32) (j := p.ad) (c := c') (es := es') hk' (pinOld ?_)
     rw [updO_none]
     repeat' (first|refine Gi0 fun _=>?_|refine Hi1 ?_|refine Gi2 (fun _=>?_) fun _=>?_|refine Gi3 ?_|refine Gi4 fun _=>?_|fail)
     refine bodyK.retD ((bn, .cells (mcells m b).toArray 142 (0, 0)) :: (N ++ ((b, .map (delE p.ad es').toArray c') :: L))) (Res.two Tryz.results150) ?_
     rw [est2]
     exact rowDel2 hk' hz2 hp'
   | true =>
    have hsm : nd.small = false := by simpa using hq
    repeat' (first|refine Gi0 fun _=>?_|refine Gi1 ?_|refine Gi2 (fun _=>?_) fun _=>?_|refine Gi3 ?_|refine Gi4 fun _=>?_|fail)
    refine OW.call (modelGreat p vz okp _) ?_
    rintro _ _ ⟨rfl, rfl⟩
    by_cases hsite : (site (p.ad / 256)).1 = 3
    ·rw [decide_eq_true hsite]
     by_cases hroom : p.room = nd.charge
     ·have hmap : m.L.map (fun q => if q.ad = p.ad then { q with size := max 1 x.size } else q) = m.L.map fun q => if q.ad = p.ad then { p with size := max 1 x.size } else q := List.map_congr_left fun q hq => by
       split
       ·rename_i he
        have := find_of hwf hq
        rw [he, find_of hwf hpm] at this
        cases this
        rfl
       ·rfl
      have est := est1.trans (if_pos ⟨hsm, hsite, hroom⟩)
      rw [hmap] at est
      have hfp : findI es ({ p with size := max 1 x.size } : Pc).ad = some v := by rw [← hf, ← hza]
      obtain ⟨av, cv, rfl⟩ := svzs
      obtain ⟨ab, cb, rfl⟩ := hb.slice
      by_cases q1 : o.errno = 0
      ·repeat' (first|refine Gi0 fun _=>?_|refine Gi1 ?_|refine Gi2 (fun _=>?_) fun _=>?_|refine Gi3 ?_|refine Gi4 fun _=>?_|fail)
       refine RW.call (modelWith bm bp c m es _ _ (fun es' c' N => es' = setE .u32 p.ad (pcV { p with size := max 1 x.size } (.slice av p.b.length cv)) es ∧ c' = c ∧ N = []) (fun b => ?_)) ?_
       ·exact FnP.vp (first := #[]) (cap := #[.pointer (some ⟨b8, 0, none⟩)]) ((realloc1 b b8 c es { p with size := max 1 x.size } (.slice av p.b.length cv) v ii _ hkv hfp).mono (fun _ L' e => ⟨[], _, _, e, rfl, rfl, rfl⟩) (fun _ _ h => h))
       rintro _ _ ⟨bn, b, N, es', c', rfl, rfl, e1, e2, e3⟩
       subst e1 e3
       obtain rfl := e2.symm
       refine pinAll ?_
       have hrow := rowSet (D := D) (L := L) (bn := bn) (b := b) (p := { p with size := max 1 x.size }) (v := .slice av p.b.length cv) (cnd := o.errno = 0 ∧ o.ad = p.ad ∧ o.n = 0 ∧ o.bytes = []) hkv hz hp hrd
       rw [← est] at hrow
       have fin : ∀ bb, bb = decide (o.errno = 0 ∧ o.ad = p.ad ∧ o.n = 0 ∧ o.bytes = []) → RowR D L (Md.realloc m x o) (.tuple #[.pointer (some ⟨bn, 0, none⟩), .bool bb]) ((bn, .cells (mcells m b).toArray 142 (0, 0)) :: (b, .map (setE .u32 p.ad (pcV { p with size := max 1 x.size } (.slice av p.b.length cv)) es).toArray c) :: L) := fun bb e => by rw [e]; exact hrow
       clear hrow
       by_cases q2 : o.ad = p.ad
       ·by_cases q3 : o.n = 0
        ·by_cases q4 : o.bytes.length = 0
         ·repeat' (first|refine Gi0 fun _=>?_|refine Gi1 ?_|refine Gi2 (fun _=>?_) fun _=>?_|refine Gi3 ?_|refine Gi4 fun _=>?_|fail)
          exact bodyK.retD ((bn, .cells (mcells m b).toArray 142 (0, 0)) :: (b, .map (setE .u32 p.ad (pcV { p with size := max 1 x.size } (.slice av p.b.length cv)) es).toArray c) :: L) (Res.two Tryz.results150) (fin true (decide_eq_true ⟨q1, q2, q3, List.eq_nil_of_length_eq_zero q4⟩).symm)
         ·repeat' (first|refine Gi0 fun _=>?_|refine Gi1 ?_|refine Gi2 (fun _=>?_) fun _=>?_|refine Gi3 ?_|refine Gi4 fun _=>?_|fail)
          exact bodyK.retD ((bn, .cells (mcells m b).toArray 142 (0, 0)) :: (b, .map (setE .u32 p.ad (pcV { p with size := max 1 x.size } (.slice av p.b.length cv)) es).toArray c) :: L) (Res.two Tryz.results150) (fin false (decide_eq_false fun h => q4 (by rw [h.2.2.2]; rfl)).symm)
        ·repeat' (first|refine Gi0 fun _=>?_|refine Gi1 ?_|refine Gi2 (fun _=>?_) fun _=>?_|refine Gi3 ?_|refine Gi4 fun _=>?_|fail)
         exact bodyK.retD ((bn, .cells (mcells m b).toArray 142 (0, 0)) :: (b, .map (setE .u32 p.ad (pcV { p with size := max 1 x.size } (.slice av p.b.length cv)) es).toArray c) :: L) (Res.two Tryz.results150) (fin false (decide_eq_false fun h => q3 h.2.2.1).symm)
       ·repeat' (first|refine Gi0 fun _=>?_|refine Gi1 ?_|refine Gi2 (fun _=>?_) fun _=>?_|refine Gi3 ?_|refine Gi4 fun _=>?_|fail)
        exact bodyK.retD ((bn, .cells (mcells m b).toArray 142 (0, 0)) :: (b, .map (setE .u32 p.ad (pcV { p with size := max 1 x.size } (.slice av p.b.length cv)) es).toArray c) :: L) (Res.two Tryz.results150) (fin false (decide_eq_false fun h => q2 h.2.1).symm)
      ·repeat' (first|refine Gi0 fun _=>?_|refine Gi1 ?_|refine Gi2 (fun _=>?_) fun _=>?_|refine Gi3 ?_|refine Gi4 fun _=>?_|fail)
       refine RW.call (modelWith bm bp c m es _ _ (fun es' c' N => es' = setE .u32 p.ad (pcV { p with size := max 1 x.size } (.slice av p.b.length cv)) es ∧ c' = c ∧ N = []) (fun b => ?_)) ?_
       ·exact FnP.vp (first := #[]) (cap := #[.pointer (some ⟨b8, 0, none⟩)]) ((realloc1 b b8 c es { p with size := max 1 x.size } (.slice av p.b.length cv) v ii _ hkv hfp).mono (fun _ L' e => ⟨[], _, _, e, rfl, rfl, rfl⟩) (fun _ _ h => h))
       rintro _ _ ⟨bn, b, N, es', c', rfl, rfl, e1, e2, e3⟩
       subst e1 e3
       obtain rfl := e2.symm
       refine pinAll ?_
       have hrow := rowSet (D := D) (L := L) (bn := bn) (b := b) (p := { p with size := max 1 x.size }) (v := .slice av p.b.length cv) (cnd := o.errno = 0 ∧ o.ad = p.ad ∧ o.n = 0 ∧ o.bytes = []) hkv hz hp hrd
       rw [← est] at hrow
       have fin : ∀ bb, bb = decide (o.errno = 0 ∧ o.ad = p.ad ∧ o.n = 0 ∧ o.bytes = []) → RowR D L (Md.realloc m x o) (.tuple #[.pointer (some ⟨bn, 0, none⟩), .bool bb]) ((bn, .cells (mcells m b).toArray 142 (0, 0)) :: (b, .map (setE .u32 p.ad (pcV { p with size := max 1 x.size } (.slice av p.b.length cv)) es).toArray c) :: L) := fun bb e => by rw [e]; exact hrow
       clear hrow
       repeat' (first|refine Gi0 fun _=>?_|refine Gi1 ?_|refine Gi2 (fun _=>?_) fun _=>?_|refine Gi3 ?_|refine Gi4 fun _=>?_|fail)
       exact bodyK.retD ((bn, .cells (mcells m b).toArray 142 (0, 0)) :: (b, .map (setE .u32 p.ad (pcV { p with size := max 1 x.size } (.slice av p.b.length cv)) es).toArray c) :: L) (Res.two Tryz.results150) (fin false (decide_eq_false fun h => q1 h.1).symm)
     ·
      have est := est1.trans (if_neg (fun h => hroom h.2.2))
      simp only at est
      repeat' (first|refine Gi0 fun _=>?_|refine Gi1 ?_|refine Gi2 (fun _=>?_) fun _=>?_|refine Gi3 ?_|refine Gi4 fun _=>?_|fail)
      obtain ⟨av, cv, rfl⟩ := svzs
      refine RW.y (yl_slHi (h' := (min p.size (max 1 x.size)).toNat) (j := min p.size (max 1 x.size)) ii ii ii ii ⟨rfl⟩ hrd ⟨by omega, by omega⟩) rfl ?_
      have hsl := hrd.sl (lo := 0) (hi := (min p.size (max 1 x.size)).toNat) (by omega) (by omega)
      have hsl2 : Rd D 1 (slV (.slice av p.b.length cv) 0 (min p.size (max 1 x.size)).toNat 1) (p.b.take (min p.size (max 1 x.size)).toNat).length (iv (p.b.take (min p.size (max 1 x.size)).toNat)) := by
       have e1 : (p.b.take (min p.size (max 1 x.size)).toNat).length = (min p.size (max 1 x.size)).toNat - 0 := by rw [List.length_take]; omega
       have e2 : ((iv p.b).drop (0 * 1)).take (((min p.size (max 1 x.size)).toNat - 0) * 1) = iv (p.b.take (min p.size (max 1 x.size)).toNat) := by simp [iv, List.map_take]
       rw [e1, ← e2]; exact hsl
      have ssl := hsl.sng
      repeat' (first|refine Gi0 fun _=>?_|refine Gi1 ?_|refine Gi2 (fun _=>?_) fun _=>?_|refine Gi3 ?_|refine Gi4 fun _=>?_|fail)
      refine RW.call (modelHand bm bp m hwf nd x.size 1 p.room o vb _ (p.b.take (min p.size (max 1 x.size)).toNat) D _ hr hb.to hor hsl2.to ⟨c2, c3⟩ (by rw [List.length_take]; omega) ⟨hs0, hs⟩ (by decide) ⟨by omega, by omega⟩) ?_
      intro u L' hh
      rcases hh with ⟨rfl, rfl, hne⟩ | ⟨he0, h2, bn, b, N, es', c', zs', rfl, rfl, hk', hz2, hp'⟩
      ·refine pinAll ?_
       have est2 : Md.realloc m x o = handed m nd x.size 1 p.room o (p.b.take (min p.size (max 1 x.size)).toNat) := by rw [est, if_neg (fun h => hne h.1 h.2)]
       have hrow : RowR D L (Md.realloc m x o) (.tuple #[.pointer (some ⟨bm, 0, none⟩), .bool (handed m nd x.size 1 p.room o (p.b.take (min p.size (max 1 x.size)).toNat)).2]) L := by
        rw [est2]
        exact RowR.same hm hr fun e => handed_ne (hne e)
       cases hb2 : (handed m nd x.size 1 p.room o (p.b.take (min p.size (max 1 x.size)).toNat)).2 with
       | false =>
        rw [hb2] at hrow
        repeat' (first|refine Gi0 fun _=>?_|refine Gi1 ?_|refine Gi2 (fun _=>?_) fun _=>?_|refine Gi3 ?_|refine Gi4 fun _=>?_|fail)
        exact bodyK.retD L (Res.two Tryz.results150) hrow
       | true =>
        have he := hne hb2
        rw [hb2] at hrow
        repeat' (first|refine Gi0 fun _=>?_|refine Gi1 ?_|refine Gi2 (fun _=>?_) fun _=>?_|refine Gi3 ?_|refine Gi4 fun _=>?_|fail)
        exact bodyK.retD L (Res.two Tryz.results150) hrow
      ·refine pinAll ?_
       have est2 : Md.realloc m x o = ({ m with L := ins (piece o.ad x.size nd.charge (p.b.take (min p.size (max 1 x.size)).toNat)) m.L : Mod }.without p.ad, true) := by rw [est, if_pos ⟨h2, he0⟩, handed_eq he0 h2]
       repeat' (first|refine Gi0 fun _=>?_|refine Hi1 ?_|refine Gi2 (fun _=>?_) fun _=>?_|refine Gi3 ?_|refine Gi4 fun _=>?_|fail)
       refine CW.drawsR [(bn, .cells (mcells m b).toArray 142 (0, 0)), (b8, .cells #[.int .u32 p.ad, .int .i64 p.size, .int .i64 p.room, .slice av p.b.length cv] 152 (0, 0))] [0, 1, 2, 3, 4, 5, 6, 7] mixed (by kernel_rfl) ?_
       repeat' (first|refine Gi0 fun _=>?_|refine Hi1 ?_|refine Gi2 (fun _=>?_) fun _=>?_|refine Gi3 ?_|refine Gi4 fun _=>?_|fail)
       refine RW.mapDel (m := b) (k := .u32) (j := p.ad) (c := c') (es := es') hk' (pinOld ?_)
       rw [updO_none]
       repeat' (first|refine Gi0 fun _=>?_|refine Hi1 ?_|refine Gi2 (fun _=>?_) fun _=>?_|refine Gi3 ?_|refine Gi4 fun _=>?_|fail)
       refine bodyK.retD ((bn, .cells (mcells m b).toArray 142 (0, 0)) :: (N ++ ((b, .map (delE p.ad es').toArray c') :: L))) (Res.two Tryz.results150) ?_
       rw [est2]
       exact rowDel2 hk' hz2 hp'
    ·rw [decide_eq_false hsite]
     have est := est1.trans (if_neg (fun h => hsite h.2.1))
     simp only at est
     repeat' (first|refine Gi0 fun _=>?_|refine Gi1 ?_|refine Gi2 (fun _=>?_) fun _=>?_|refine Gi3 ?_|refine Gi4 fun _=>?_|fail)
     obtain ⟨av, cv, rfl⟩ := svzs
     refine RW.y (yl_slHi (h' := (min p.size (max 1 x.size)).toNat) (j := min p.size (max 1 x.size)) ii ii ii ii ⟨rfl⟩ hrd ⟨by omega, by omega⟩) rfl ?_
     have hsl := hrd.sl (lo := 0) (hi := (min p.size (max 1 x.size)).toNat) (by omega) (by omega)
     have hsl2 : Rd D 1 (slV (.slice av p.b.length cv) 0 (min p.size (max 1 x.size)).toNat 1) (p.b.take (min p.size (max 1 x.size)).toNat).length (iv (p.b.take (min p.size (max 1 x.size)).toNat)) := by
      have e1 : (p.b.take (min p.size (max 1 x.size)).toNat).length = (min p.size (max 1 x.size)).toNat - 0 := by rw [List.length_take]; omega
      have e2 : ((iv p.b).drop (0 * 1)).take (((min p.size (max 1 x.size)).toNat - 0) * 1) = iv (p.b.take (min p.size (max 1 x.size)).toNat) := by simp [iv, List.map_take]
      rw [e1, ← e2]; exact hsl
     have ssl := hsl.sng
     repeat' (first|refine Gi0 fun _=>?_|refine Gi1 ?_|refine Gi2 (fun _=>?_) fun _=>?_|refine Gi3 ?_|refine Gi4 fun _=>?_|fail)
     refine RW.call (modelHand bm bp m hwf nd x.size 1 p.room o vb _ (p.b.take (min p.size (max 1 x.size)).toNat) D _ hr hb.to hor hsl2.to ⟨c2, c3⟩ (by rw [List.length_take]; omega) ⟨hs0, hs⟩ (by decide) ⟨by omega, by omega⟩) ?_
     intro u L' hh
     rcases hh with ⟨rfl, rfl, hne⟩ | ⟨he0, h2, bn, b, N, es', c', zs', rfl, rfl, hk', hz2, hp'⟩
     ·refine pinAll ?_
      have est2 : Md.realloc m x o = handed m nd x.size 1 p.room o (p.b.take (min p.size (max 1 x.size)).toNat) := by rw [est, if_neg (fun h => hne h.1 h.2)]
      have hrow : RowR D L (Md.realloc m x o) (.tuple #[.pointer (some ⟨bm, 0, none⟩), .bool (handed m nd x.size 1 p.room o (p.b.take (min p.size (max 1 x.size)).toNat)).2]) L := by
       rw [est2]
       exact RowR.same hm hr fun e => handed_ne (hne e)
      cases hb2 : (handed m nd x.size 1 p.room o (p.b.take (min p.size (max 1 x.size)).toNat)).2 with
      | false =>
       rw [hb2] at hrow
       repeat' (first|refine Gi0 fun _=>?_|refine Gi1 ?_|refine Gi2 (fun _=>?_) fun _=>?_|refine Gi3 ?_|refine Gi4 fun _=>?_|fail)
       exact bodyK.retD L (Res.two Tryz.results150) hrow
      | true =>
       have he := hne hb2
       rw [hb2] at hrow
       repeat' (first|refine Gi0 fun _=>?_|refine Gi1 ?_|refine Gi2 (fun _=>?_) fun _=>?_|refine Gi3 ?_|refine Gi4 fun _=>?_|fail)
       exact bodyK.retD L (Res.two Tryz.results150) hrow
     ·refine pinAll ?_
      have est2 : Md.realloc m x o = ({ m with L := ins (piece o.ad x.size nd.charge (p.b.take (min p.size (max 1 x.size)).toNat)) m.L : Mod }.without p.ad, true) := by rw [est, if_pos ⟨h2, he0⟩, handed_eq he0 h2]
      repeat' (first|refine Gi0 fun _=>?_|refine Hi1 ?_|refine Gi2 (fun _=>?_) fun _=>?_|refine Gi3 ?_|refine Gi4 fun _=>?_|fail)
      refine CW.drawsR [(bn, .cells (mcells m b).toArray 142 (0, 0)), (b8, .cells #[.int .u32 p.ad, .int .i64 p.size, .int .i64 p.room, .slice av p.b.length cv] 152 (0, 0))] [0, 1, 2, 3, 4, 5, 6, 7] mixed (by kernel_rfl) ?_
      repeat' (first|refine Gi0 fun _=>?_|refine Hi1 ?_|refine Gi2 (fun _=>?_) fun _=>?_|refine Gi3 ?_|refine Gi4 fun _=>?_|fail)
      refine RW.mapDel (m := b) (k := .u32) (j := p.ad) (c := c') (es := es') hk' (pinOld ?_)
      rw [updO_none]
      repeat' (first|refine Gi0 fun _=>?_|refine Hi1 ?_|refine Gi2 (fun _=>?_) fun _=>?_|refine Gi3 ?_|refine Gi4 fun _=>?_|fail)
      refine bodyK.retD ((bn, .cells (mcells m b).toArray 142 (0, 0)) :: (N ++ ((b, .map (delE p.ad es').toArray c') :: L))) (Res.two Tryz.results150) ?_
      rw [est2]
      exact rowDel2 hk' hz2 hp'
 ·have hfm : m.find x.ad = none := perm_find_none hp fun p hp' => by
   obtain ⟨z, hz', rfl⟩ := List.mem_map.1 hp'
   exact hz.find_none hkv hf z hz'
  have est : Md.realloc m x o = (m, decide (bareO o [320])) := by unfold Md.realloc; rw [hfm]
  repeat' (first|refine Gi0 fun _=>?_|refine Gi1 ?_|refine Gi2 (fun _=>?_) fun _=>?_|refine Gi3 ?_|refine Gi4 fun _=>?_|fail)
  refine OW.call (modelBare o vb _ [320] _ hb.to (Rd.blk (l := iv [320]) rfl (Nat.le_refl _)) (by decide)) ?_
  rintro _ _ ⟨rfl, rfl⟩
  generalize hbb : decide (bareO o [320]) = bb at est ⊢
  repeat' (first|refine Gi0 fun _=>?_|refine Gi1 ?_|refine Gi2 (fun _=>?_) fun _=>?_|refine Gi3 ?_|refine Gi4 fun _=>?_|fail)
  refine bodyK.retD L (Res.two Tryz.results150) ?_
  rw [est]
  exact RowR.same (r := (m, bb)) hm hr fun _ => rfl
@[reducible] def rowsE : List MapEntry := [⟨.int .i64 1, .func (.func 147) #[] #[], 0⟩, ⟨.int .i64 2, .func (.func 148) #[] #[], 1⟩, ⟨.int .i64 3, .func (.func 149) #[] #[], 2⟩, ⟨.int .i64 4, .func (.func 150) #[] #[], 3⟩, ⟨.int .i64 5, .func (.func 151) #[] #[], 4⟩, ⟨.int .i64 6, .func (.func 152) #[] #[], 5⟩, ⟨.int .i64 7, .func (.func 153) #[] #[], 6⟩]
theorem keysI_nil : keysI .i64 [] := fun _ h => (by cases h)
theorem keysI_snoc {es : List MapEntry} {j : Int} {v : Value} {c : Nat} (h : keysI .i64 es) : keysI .i64 (es ++ [⟨.int .i64 j, v, c⟩]) := fun e he => by
 rcases List.mem_append.1 he with he | he
 ·exact h e he
 ·rw [List.mem_singleton.1 he]; exact ⟨_, rfl⟩
theorem rowsKeys : keysI .i64 rowsE := fun e he => by
 simp only [rowsE, List.mem_cons, List.not_mem_nil, or_false] at he
 rcases he with rfl | rfl | rfl | rfl | rfl | rfl | rfl <;> exact ⟨_, rfl⟩
theorem modelRows (L : Chunk) : Fn1 Tryz.prog 109 [] L (fun u L' => ∃ b, u = .map (some b) ∧ L' = (b, .map rowsE.toArray 7) :: L) := by
 intro w0; refine Spec.enter0 Tryz.func109 rfl Tryz.ntmps109 ?_
 repeat' (first|refine Ga0 fun _=>?_|refine Ga1 ?_|refine Ga2 (fun _=>?_) fun _=>?_|refine Ga3 ?_|refine Ga4 fun _=>?_|fail)
 refine OW.u (h := ef_insertNew ii ii ii ii ii ii keysI_nil (by simp [findI]) ii) ?_
 refine OW.u (h := ef_insertNew ii ii ii ii ii ii (keysI_snoc keysI_nil) (by simp [findI]) ii) ?_
 refine OW.u (h := ef_insertNew ii ii ii ii ii ii (keysI_snoc (keysI_snoc keysI_nil)) (by simp [findI]) ii) ?_
 refine OW.u (h := ef_insertNew ii ii ii ii ii ii (keysI_snoc (keysI_snoc (keysI_snoc keysI_nil))) (by simp [findI]) ii) ?_
 refine OW.u (h := ef_insertNew ii ii ii ii ii ii (keysI_snoc (keysI_snoc (keysI_snoc (keysI_snoc keysI_nil)))) (by simp [findI]) ii) ?_
 refine OW.u (h := ef_insertNew ii ii ii ii ii ii (keysI_snoc (keysI_snoc (keysI_snoc (keysI_snoc (keysI_snoc keysI_nil))))) (by simp [findI]) ii) ?_
 refine OW.u (h := ef_insertNew ii ii ii ii ii ii (keysI_snoc (keysI_snoc (keysI_snoc (keysI_snoc (keysI_snoc (keysI_snoc keysI_nil)))))) (by simp [findI]) ii) ?_
 repeat' (first|refine Ga0 fun _=>?_|refine Ga1 ?_|refine Ga2 (fun _=>?_) fun _=>?_|refine Ga3 ?_|refine Ga4 fun _=>?_|fail)
 exact bodyK.ret (Res.one Tryz.results109) ⟨_, rfl, rfl⟩
theorem rowVP (bm bp : Nat) (m : Mod) (hwf : WF m) (x : OpM) (hxr : OpR x) (o : OutM) (vx vb : Value) (D L : Chunk) (hvx : BS L vx x.bytes) [hm : InC L bm (.cells (mcells m bp).toArray 142 (0, 0))] [hD : MemC D L] (hr : MRest D bp m)
  (hb : BS L vb o.bytes) (hor : OutR o) {v : Value} (hf : findI rowsE x.kind = some v) : Sng v ∧ (1 ≤ x.kind ∧ x.kind ≤ 7) ∧ VP Tryz.prog v [.pointer (some ⟨bm, 0, none⟩), opV x vx, outV o vb] L (RowR D L (Md.step m x o)) noPanic := by
 have sx := hvx.sng
 by_cases h1 : x.kind = 1
 ·simp [findI, h1] at hf; subst hf
  exact ⟨ii, by omega, FnP.vp (first := #[]) (cap := #[]) (modelMalloc bm bp m hwf x hxr h1 o vx vb sx D L hr hb hor)⟩
 by_cases h2 : x.kind = 2
 ·simp [findI, h2] at hf; subst hf
  exact ⟨ii, by omega, FnP.vp (first := #[]) (cap := #[]) (modelCalloc bm bp m hwf x hxr h2 o vx vb sx D L hr hb hor)⟩
 by_cases h3 : x.kind = 3
 ·simp [findI, h3] at hf; subst hf
  exact ⟨ii, by omega, FnP.vp (first := #[]) (cap := #[]) (modelFree bm bp m hwf x hxr h3 o vx vb sx D L hr hb hor)⟩
 by_cases h4 : x.kind = 4
 ·simp [findI, h4] at hf; subst hf
  have e : Md.step m x o = Md.realloc m x o := by unfold Md.step; rw [if_neg h1, if_neg h2, if_neg h3, if_pos h4]
  rw [e]
  exact ⟨ii, by omega, FnP.vp (first := #[]) (cap := #[]) (modelRealloc bm bp m hwf x hxr o vx vb sx D L hr hb hor)⟩
 by_cases h5 : x.kind = 5
 ·simp [findI, h5] at hf; subst hf
  exact ⟨ii, by omega, FnP.vp (first := #[]) (cap := #[]) (modelUsable bm bp m hwf x hxr h5 o vx vb sx D L hr hb hor)⟩
 by_cases h6 : x.kind = 6
 ·simp [findI, h6] at hf; subst hf
  exact ⟨ii, by omega, FnP.vp (first := #[]) (cap := #[]) (modelLoad bm bp m hwf x hxr h6 o vx vb sx D L hr hb hor)⟩
 by_cases h7 : x.kind = 7
 ·simp [findI, h7] at hf; subst hf
  exact ⟨ii, by omega, FnP.vp (first := #[]) (cap := #[]) (modelStore bm bp m hwf x hxr h7 o vx vb D L hvx hr hb hor)⟩
 ·simp [findI, h1, h2, h3, h4, h5, h6, h7] at hf
theorem rowNone {x : OpM} (hf : findI rowsE x.kind = none) : ¬ (1 ≤ x.kind ∧ x.kind ≤ 7) := fun h => by
 have : x.kind = 1 ∨ x.kind = 2 ∨ x.kind = 3 ∨ x.kind = 4 ∨ x.kind = 5 ∨ x.kind = 6 ∨ x.kind = 7 := by omega
 rcases this with h | h | h | h | h | h | h <;> simp [findI, h] at hf
def NextR (D L : Chunk) (r : Mod × Bool) (e : Int) (u : Value) (L' : Chunk) : Prop :=
 ∃ N bn b2, u = .tuple #[.pointer (some ⟨bn, 0, none⟩), .bool r.2, .int .i64 e] ∧ L' = N ++ L ∧ (r.2 = true → InC L' bn (.cells (mcells r.1 b2).toArray 142 (0, 0)) ∧ MRest (N ++ D) b2 r.1)
theorem modelNext (bm bp : Nat) (m : Mod) (hwf : WF m) (x : OpM) (hxr : OpR x) (o : OutM) (vx vb : Value) (D L : Chunk) (hvx : BS L vx x.bytes) [hm : InC L bm (.cells (mcells m bp).toArray 142 (0, 0))] [hD : MemC D L] (hr : MRest D bp m)
  (hb : BS L vb o.bytes) (hor : OutR o) : Fn1 Tryz.prog 58 [.pointer (some ⟨bm, 0, none⟩), opV x vx, outV o vb] L (NextR D L (Md.next m x o) (nextE x)) := by
 have sx := hvx.sng
 have svb := hb.sng
 intro w0; refine Spec.enter3 Tryz.func58 rfl Tryz.ntmps58 (by decide) ?_
 have z3:DrP 3 [1,2,0,3,4,5,6,7,8]:=⟨⟨⟩⟩
 have hm' := hm
 obtain ⟨k1, k2⟩ := hxr.kind
 repeat' (first|refine Gi0 fun _=>?_|refine Gi1 ?_|refine Gi2 (fun _=>?_) fun _=>?_|refine Gi3 ?_|refine Gi4 fun _=>?_|fail)
 refine OW.call (modelNone bm bp m _) ?_
 rintro _ _ ⟨rfl, rfl⟩
 repeat' (first|refine Gi0 fun _=>?_|refine Gi1 ?_|refine Gi2 (fun _=>?_) fun _=>?_|refine Gi3 ?_|refine Gi4 fun _=>?_|fail)
 refine RW.call (modelRows _) ?_
 rintro _ _ ⟨br, rfl, rfl⟩
 refine pinAll ?_
 repeat' (first|refine Gi0 fun _=>?_|refine Gi1 ?_|refine Gi2 (fun _=>?_) fun _=>?_|refine Gi3 ?_|refine Gi4 fun _=>?_|fail)
 refine RW.lookOk (m := br) (c := 7) (es := rowsE) rowsKeys (fun v hf => ?_) (fun hf => ?_)
 ·have hvp := fun L (hvx : BS L vx x.bytes) (hm : InC L bm (.cells (mcells m bp).toArray 142 (0, 0))) (hD : MemC D L) (hb : BS L vb o.bytes) => rowVP bm bp m hwf x hxr o vx vb D L hvx hr hb hor hf
  obtain ⟨sv, hk, _⟩ := hvp L hvx hm hD hb
  have e1 : Md.next m x o = Md.step m x o := by unfold Md.next; rw [if_pos hk]
  have e2 : nextE x = 0 := by unfold nextE; rw [if_pos hk]
  rw [e1, e2]
  repeat' (first|refine Gi0 fun _=>?_|refine Gi1 ?_|refine Gi2 (fun _=>?_) fun _=>?_|refine Gi3 ?_|refine Gi4 fun _=>?_|fail)
  refine OW.callV1 ((hvp _ hvx.to ii ii hb.to).2.2) ?_
  intro u L' hrow
  have hrow2 : RowR D L (Md.step m x o) u L' := RowR.more (B := [_, _, _]) hrow
  clear hrow
  obtain ⟨N, bn, b2, rfl, rfl, hrow⟩ := hrow2
  generalize Md.step m x o = r at *
  obtain ⟨r1, r2⟩ := r
  simp only at hrow ⊢
  repeat' (first|refine Gi0 fun _=>?_|refine Gi1 ?_|refine Gi2 (fun _=>?_) fun _=>?_|refine Gi3 ?_|refine Gi4 fun _=>?_|fail)
  exact bodyK.ret (Res.three Tryz.results58) ⟨N, bn, b2, rfl, rfl, hrow⟩
 ·have hk := rowNone hf
  have e1 : Md.next m x o = (m, false) := by unfold Md.next; rw [if_neg hk]
  have e2 : nextE x = 2 := by unfold nextE; rw [if_neg hk]
  rw [e1, e2]
  repeat' (first|refine Gi0 fun _=>?_|refine Gi1 ?_|refine Gi2 (fun _=>?_) fun _=>?_|refine Gi3 ?_|refine Gi4 fun _=>?_|fail)
  exact bodyK.retD L (Res.three Tryz.results58) ⟨[], bm, bp, rfl, rfl, fun h => (by cases h)⟩
theorem NextR.more {D B L : Chunk} {r : Mod × Bool} {e : Int} {u : Value} {L' : Chunk} (h : NextR D (B ++ L) r e u L') : NextR D L r e u L' := by
 obtain ⟨N, bn, b2, rfl, rfl, h⟩ := h
 refine ⟨N ++ B, bn, b2, rfl, by rw [List.append_assoc], fun e => ⟨(h e).1, ?_⟩⟩
 have : MemC (N ++ D) ((N ++ B) ++ D) := ⟨fun q hq => by
  simp only [List.mem_append] at hq ⊢
  rcases hq with h | h
  ·exact .inl (.inl h)
  ·exact .inr h⟩
 exact (h e).2.to
theorem mcells_after {m : Mod} {x : OpM} {o : OutM} {b : Nat} : mcells (after m x o) b = mcells m b := by
 have h := after_keeps m x o
 simp only [mcells, h.1, h.2]
theorem modelDo (bm bp : Nat) (m : Mod) (hwf : WF m) (x : OpM) (hxr : OpR x) (o : OutM) (vx vb : Value) (D L : Chunk) {C : Chunk → Chunk} (hvx : BS L vx x.bytes) [hat : At L [(bm, .cells (mcells m bp).toArray 142 (0, 0))] C] [hD : MemC D (C [])] (hr : MRest D bp m)
  (hb : BS L vb o.bytes) (hor : OutR o) : Fn1 Tryz.prog 20 [.pointer (some ⟨bm, 0, none⟩), opV x vx, outV o vb] L (fun u L' => ∃ N b2, u = .tuple #[.bool (Md.next m x o).2, .int .i64 (nextE x)] ∧ L' = N ++ C [(bm, .cells (mcells (after m x o) b2).toArray 142 (0, 0))] ∧ MRest (N ++ D) b2 (after m x o)) := by
 have sx := hvx.sng
 have svb := hb.sng
 obtain ⟨A, B, rfl, hC⟩ := hat.out
 obtain rfl : C = fun X => A ++ X ++ B := funext hC
 clear hat hC
 have hD' : MemC D (A ++ [(bm, Obj.cells (mcells m bp).toArray 142 (0, 0))] ++ B) := ⟨fun q hq => by
  have := hD.out q hq
  simp only [List.append_nil, List.mem_append] at this ⊢
  rcases this with h | h
  ·exact .inl (.inl h)
  ·exact .inr h⟩
 intro w0; refine Spec.enter3 Tryz.func20 rfl Tryz.ntmps20 (by decide) ?_
 repeat' (first|refine Ga0 fun _=>?_|refine Ga1 ?_|refine Ga2 (fun _=>?_) fun _=>?_|refine Ga3 ?_|refine Ga4 fun _=>?_|fail)
 refine OW.call (modelNext bm bp m hwf x hxr o vx vb D _ hvx.to hr hb.to hor) ?_
 intro u L' hrow
 have hrow2 : NextR D (A ++ [(bm, Obj.cells (mcells m bp).toArray 142 (0, 0))] ++ B) (Md.next m x o) (nextE x) u L' := NextR.more (B := [_, _]) hrow
 clear hrow
 obtain ⟨N, bn, b2, rfl, rfl, hrow⟩ := hrow2
 cases hq : (Md.next m x o).2 with
 | false =>
  have ea : after m x o = m := by unfold after; rw [hq]; rfl
  generalize nextE x = e
  repeat' (first|refine Ga0 fun _=>?_|refine Ga1 ?_|refine Ga2 (fun _=>?_) fun _=>?_|refine Ga3 ?_|refine Ga4 fun _=>?_|fail)
  refine bodyK.ret (Res.two Tryz.results20) ⟨N, bp, rfl, by rw [mcells_after], ?_⟩
  rw [ea]
  have : MemC D (N ++ D) := ⟨fun q h => List.mem_append_right _ h⟩
  exact hr.to
 | true =>
  have ea : after m x o = (Md.next m x o).1 := by unfold after; rw [hq]; rfl
  obtain ⟨hbn, hrest⟩ := hrow hq
  have hk := next_keeps m x o
  have em : mcells (Md.next m x o).1 b2 = mcells m b2 := by simp only [mcells, hk.1, hk.2]
  rw [em] at hbn
  generalize nextE x = e
  repeat' (first|refine Ga0 fun _=>?_|refine Ga1 ?_|refine Ga2 (fun _=>?_) fun _=>?_|refine Ga3 ?_|refine Ga4 fun _=>?_|fail)
  exact bodyK.ret (Res.two Tryz.results20) ⟨N, b2, rfl, by rw [mcells_after], by rw [ea]; exact hrest⟩
theorem modelNew (slot quota : Int) (L : Chunk) : Fn1 Tryz.prog 15 [.int .i64 slot, .int .i64 quota] L
  (fun u L' => if 0 ≤ slot ∧ slot < 4 ∧ 0 ≤ quota ∧ quota ≤ 1073741824 then ∃ bn bp, u = .tuple #[.pointer (some ⟨bn, 0, none⟩), .int .i64 0] ∧ L' = (bn, .cells (mcells ⟨slot, quota, []⟩ bp).toArray 142 (0, 0)) :: (bp, .map #[] 0) :: L else u = .tuple #[.pointer none, .int .i64 2] ∧ L = L') := by
 intro w0; refine Spec.enter2 Tryz.func15 rfl Tryz.ntmps15 (by decide) ?_
 repeat' (first|refine Ga0 fun _=>?_|refine Ga1 ?_|refine Ga2 (fun _=>?_) fun _=>?_|refine Ga3 ?_|refine Ga4 fun _=>?_|fail)
 refine OW.call (windowBase slot _) ?_
 rintro _ _ ⟨⟨b, rfl⟩, rfl⟩
 by_cases h1 : 0 ≤ slot ∧ slot < 4
 ·rw [if_pos h1]
  by_cases h2 : 0 ≤ quota
  ·by_cases h3 : quota ≤ 1073741824
   ·repeat' (first|refine Ga0 fun _=>?_|refine Ga1 ?_|refine Ga2 (fun _=>?_) fun _=>?_|refine Ga3 ?_|refine Ga4 fun _=>?_|fail)
    refine bodyK.ret (Res.two Tryz.results15) ?_
    rw [if_pos ⟨h1.1, h1.2, h2, h3⟩]
    exact ⟨_, _, rfl, rfl⟩
   ·repeat' (first|refine Ga0 fun _=>?_|refine Ga1 ?_|refine Ga2 (fun _=>?_) fun _=>?_|refine Ga3 ?_|refine Ga4 fun _=>?_|fail)
    refine bodyK.retD L (Res.two Tryz.results15) ?_
    rw [if_neg fun h => h3 h.2.2.2]
    exact ⟨rfl, rfl⟩
  ·repeat' (first|refine Ga0 fun _=>?_|refine Ga1 ?_|refine Ga2 (fun _=>?_) fun _=>?_|refine Ga3 ?_|refine Ga4 fun _=>?_|fail)
   refine bodyK.retD L (Res.two Tryz.results15) ?_
   rw [if_neg fun h => h2 h.2.2.1]
   exact ⟨rfl, rfl⟩
 ·rw [if_neg h1]
  repeat' (first|refine Ga0 fun _=>?_|refine Ga1 ?_|refine Ga2 (fun _=>?_) fun _=>?_|refine Ga3 ?_|refine Ga4 fun _=>?_|fail)
  refine bodyK.retD L (Res.two Tryz.results15) ?_
  rw [if_neg fun h => h1 ⟨h.1, h.2.1⟩]
  exact ⟨rfl, rfl⟩
end Go.Proofs.YtmnhooepaemlcaaGreat
