/-
  For every input the law ModelAlways returns true, and each argument reads behind the call as it read before. This text holds lemmas for it (part 6).
  Conditions: none.
-/
import Derived.Test.YtmnhooepaemlcaaGreatMA5
import Derived.Sort.LotD4
set_option linter.all false
namespace Go.Proofs.YtmnhooepaemlcaaGreat
open Go Go.Pw Go.Pw.Sc Go.Pw.Md
set_option maxRecDepth 100000
set_option maxHeartbeats 4000000
set_option synthInstance.maxHeartbeats 400000
set_option synthInstance.maxSize 2000
attribute [local irreducible] CW OW RW thenK blockK
attribute [local irreducible] scopeK loopK TRW ATW


theorem rowSet {D L : Chunk} {bn b c : Nat} {m : Mod} {p : Pc} {v : Value} {cnd : Prop} [Decidable cnd] {es : List MapEntry} {zs : List (MapEntry × Pc)} (hk : KV .u32 es c) (hz : Zs D es zs) (hp : (zs.map (·.2)).Perm m.L) (hv : Rd D 1 v p.b.length (iv p.b)) :
    RowR D L (if cnd then ({ m with L := m.L.map fun q => if q.ad = p.ad then p else q }, true) else (m, false)) (.tuple #[.pointer (some ⟨bn, 0, none⟩), .bool (decide cnd)]) ((bn, .cells (mcells m b).toArray 142 (0, 0)) :: (b, .map (setE .u32 p.ad (pcV p v) es).toArray c) :: L) := by
  refine ⟨[(bn, .cells (mcells m b).toArray 142 (0, 0)), (b, .map (setE .u32 p.ad (pcV p v) es).toArray c)], bn, b, ?_, rfl, ?_⟩
  · by_cases h : cnd <;> simp [h]
  · by_cases h : cnd
    · rw [if_pos h]
      intro _
      refine ⟨⟨by simp [mcells]⟩, setE .u32 p.ad (pcV p v) es, c, _, ⟨by simp⟩, hk.set, ?_, Zs.set_perm (v := v) hp⟩
      have := Zs.set hz hv
      exact this.to
    · rw [if_neg h]
      intro h; cases h
theorem rowDel2 {D L N : Chunk} {bn b c : Nat} {m : Mod} {l : List Pc} {a : Int} {es : List MapEntry} {zs : List (MapEntry × Pc)} (hk : KV .u32 es c) (hz : Zs (N ++ D) es zs) (hp : (zs.map (·.2)).Perm l) :
    RowR D L (({ m with L := l } : Mod).without a, true) (.tuple #[.pointer (some ⟨bn, 0, none⟩), .bool true]) ((bn, .cells (mcells m b).toArray 142 (0, 0)) :: (N ++ ((b, .map (delE a es).toArray c) :: L))) := by
  refine ⟨(bn, .cells (mcells m b).toArray 142 (0, 0)) :: (N ++ [(b, .map (delE a es).toArray c)]), bn, b, rfl, by simp, fun _ => ⟨⟨by simp [mcells, Mod.without]⟩, ?_⟩⟩
  have : MemC (N ++ D) ((bn, .cells (mcells m b).toArray 142 (0, 0)) :: (N ++ [(b, .map (delE a es).toArray c)]) ++ D) := ⟨fun p hp => by
    simp only [List.mem_append, List.mem_cons] at hp ⊢
    rcases hp with h | h
    · exact .inl (.inr (.inl h))
    · exact .inr h⟩
  exact MRest.del (a := 0) (m := { m with L := l }) ⟨by simp⟩ hk hz.to hp
theorem modelRealloc (bm bp : Nat) (m : Mod) (hwf : WF m) (x : OpM) (hxr : OpR x) (o : OutM) (vx vb : Value) (sx : Sng vx) (D L : Chunk) [hm : InC L bm (.cells (mcells m bp).toArray 142 (0, 0))] [hD : MemC D L] (hr : MRest D bp m)
    (hb : BS L vb o.bytes) (hor : OutR o) : Fn1 Tryz.prog 150 [.pointer (some ⟨bm, 0, none⟩), opV x vx, outV o vb] L (RowR D L (Md.realloc m x o)) := by
  intro w0; refine Spec.enter3 Tryz.func150 rfl Tryz.ntmps150 (by decide) ?_
  have hm' := hm
  have svb := hb.sng
  have hr0 := hr
  obtain ⟨es, c, zs, h1, hkv, hz, hp⟩ := hr0
  have h1' : InC L bp (.map es.toArray c) := ⟨hD.out _ h1.out⟩
  repeat' (first|refine Gi0 fun _=>?_|refine Gi1 ?_|refine CW.drawsP (id := 1) [0,1,2,3,4,5,6,7,8,9,10,11,12] mixed (by kernel_rfl) ?_|refine CW.drawsP (id := 10) [0,1,3,4,5,2,6,7,8,9,10,11,12,13,14,15,16,17,18,19,20,21,22,23,24,25,26] mixed (by kernel_rfl) ?_|refine CW.drawsP (id := 11) [0,1,2,3,4,5,6,7,8,9,10,11,12,13,14,15,16,17,18,19,20,21,22] mixed (by kernel_rfl) ?_|refine CW.drawsP (id := 13) [0,1,2,3,4,5,6,7] mixed (by kernel_rfl) ?_|refine Gi2 (fun _=>?_) fun _=>?_|refine Gi3 ?_|refine Gi4 fun _=>?_|fail)
  rename_i b4 b5
  refine RW.lookOk (m := bp) (c := c) (es := es) hkv.keys (fun v hf => ?_) (fun hf => ?_)
  · obtain ⟨z, hz', hza, hzv⟩ := hz.find hkv hf
    obtain ⟨_, vz, hzv2, hrd⟩ := hz.at_ z hz'
    have svz := hrd.sng
    rw [← hzv, hzv2]
    obtain ⟨ze, p⟩ := z
    simp only at hza hzv hzv2 hrd ⊢
    have hpm : p ∈ m.L := hp.mem_iff.1 (List.mem_map.2 ⟨_, hz', rfl⟩)
    have okp := hwf.ok p hpm
    have hfm : m.find x.ad = some p := by rw [← hza]; exact find_of hwf hpm
    have est0 : Md.realloc m x o = match needOf x.size 1 with
      | none => (m, decide (bareO o [2]))
      | some nd =>
        if nd.small = false ∧ (site (p.ad / 256)).1 = 3 ∧ p.room = nd.charge then
          if o.errno = 0 ∧ o.ad = p.ad ∧ o.n = 0 ∧ o.bytes = [] then ({ m with L := m.L.map fun q => if q.ad = p.ad then { q with size := max 1 x.size } else q }, true) else (m, false)
        else
          let r := handed m nd x.size 1 p.room o (p.b.take (min p.size (max 1 x.size)).toNat)
          if r.2 = true ∧ o.errno = 0 then (r.1.without p.ad, true) else r := by unfold Md.realloc; rw [hfm]; rfl
    repeat' (first|refine Gi0 fun _=>?_|refine Gi1 ?_|refine CW.drawsP (id := 1) [0,1,2,3,4,5,6,7,8,9,10,11,12] mixed (by kernel_rfl) ?_|refine CW.drawsP (id := 10) [0,1,3,4,5,2,6,7,8,9,10,11,12,13,14,15,16,17,18,19,20,21,22,23,24,25,26] mixed (by kernel_rfl) ?_|refine CW.drawsP (id := 11) [0,1,2,3,4,5,6,7,8,9,10,11,12,13,14,15,16,17,18,19,20,21,22] mixed (by kernel_rfl) ?_|refine CW.drawsP (id := 13) [0,1,2,3,4,5,6,7] mixed (by kernel_rfl) ?_|refine Gi2 (fun _=>?_) fun _=>?_|refine Gi3 ?_|refine Gi4 fun _=>?_|fail)
    rename_i b8
    refine OW.call (sizeOf x.size 1 hxr.size.1 (by decide) _) ?_
    rintro _ _ ⟨rfl, rfl⟩
    cases hn : needOf x.size 1 with
    | none =>
      rw [hn] at est0
      repeat' (first|refine Gi0 fun _=>?_|refine Gi1 ?_|refine CW.drawsP (id := 1) [0,1,2,3,4,5,6,7,8,9,10,11,12] mixed (by kernel_rfl) ?_|refine CW.drawsP (id := 10) [0,1,3,4,5,2,6,7,8,9,10,11,12,13,14,15,16,17,18,19,20,21,22,23,24,25,26] mixed (by kernel_rfl) ?_|refine CW.drawsP (id := 11) [0,1,2,3,4,5,6,7,8,9,10,11,12,13,14,15,16,17,18,19,20,21,22] mixed (by kernel_rfl) ?_|refine CW.drawsP (id := 13) [0,1,2,3,4,5,6,7] mixed (by kernel_rfl) ?_|refine Gi2 (fun _=>?_) fun _=>?_|refine Gi3 ?_|refine Gi4 fun _=>?_|fail)
      refine OW.call (modelBare o vb _ [2] _ hb.to (Rd.blk (l := iv [2]) rfl (Nat.le_refl _)) (by decide)) ?_
      rintro _ _ ⟨rfl, rfl⟩
      have est : Md.realloc m x o = (m, decide (bareO o [2])) := est0
      generalize hbb : decide (bareO o [2]) = bb at est ⊢
      repeat' (first|refine Gi0 fun _=>?_|refine Gi1 ?_|refine CW.drawsP (id := 1) [0,1,2,3,4,5,6,7,8,9,10,11,12] mixed (by kernel_rfl) ?_|refine CW.drawsP (id := 10) [0,1,3,4,5,2,6,7,8,9,10,11,12,13,14,15,16,17,18,19,20,21,22,23,24,25,26] mixed (by kernel_rfl) ?_|refine CW.drawsP (id := 11) [0,1,2,3,4,5,6,7,8,9,10,11,12,13,14,15,16,17,18,19,20,21,22] mixed (by kernel_rfl) ?_|refine CW.drawsP (id := 13) [0,1,2,3,4,5,6,7] mixed (by kernel_rfl) ?_|refine Gi2 (fun _=>?_) fun _=>?_|refine Gi3 ?_|refine Gi4 fun _=>?_|fail)
      refine bodyK.retD L (Res.two Tryz.results150) ?_
      rw [est]
      exact RowR.same (r := (m, bb)) hm hr fun _ => rfl
    | some nd =>
      rw [hn] at est0
      obtain ⟨c1, c2, c3⟩ := needOf_charge hn
      have hs : x.size ≤ 262144 := by
        unfold needOf at hn
        split at hn
        · cases hn
        · omega
      have hs0 := hxr.size.1
      have est1 : Md.realloc m x o = if nd.small = false ∧ (site (p.ad / 256)).1 = 3 ∧ p.room = nd.charge then
          (if o.errno = 0 ∧ o.ad = p.ad ∧ o.n = 0 ∧ o.bytes = [] then ({ m with L := m.L.map fun q => if q.ad = p.ad then { q with size := max 1 x.size } else q }, true) else (m, false))
        else
          (let r := handed m nd x.size 1 p.room o (p.b.take (min p.size (max 1 x.size)).toNat)
          if r.2 = true ∧ o.errno = 0 then (r.1.without p.ad, true) else r) := est0
      clear est0
      have hl := okp.len
      have hsz1 := okp.size1
      have hsz2 := okp.size2
      have hfin := okp.fin
      have had0 := okp.ad
      have svzs : ∃ a c, vz = .slice a p.b.length c := by obtain ⟨a, c, h, _⟩ := hrd.isSlice; exact ⟨a, c, h⟩
      repeat' (first|refine Gi0 fun _=>?_|refine Gi1 ?_|refine CW.drawsP (id := 1) [0,1,2,3,4,5,6,7,8,9,10,11,12] mixed (by kernel_rfl) ?_|refine CW.drawsP (id := 10) [0,1,3,4,5,2,6,7,8,9,10,11,12,13,14,15,16,17,18,19,20,21,22,23,24,25,26] mixed (by kernel_rfl) ?_|refine CW.drawsP (id := 11) [0,1,2,3,4,5,6,7,8,9,10,11,12,13,14,15,16,17,18,19,20,21,22] mixed (by kernel_rfl) ?_|refine CW.drawsP (id := 13) [0,1,2,3,4,5,6,7] mixed (by kernel_rfl) ?_|refine Gi2 (fun _=>?_) fun _=>?_|refine Gi3 ?_|refine Gi4 fun _=>?_|fail)
      generalize hq : (!nd.small) = q
      cases q with
      | false =>
        have hsm : nd.small = true := by simpa using hq
        have est := est1.trans (if_neg (fun h => by rw [hsm] at h; cases h.1))
        simp only at est
        repeat' (first|refine Gi0 fun _=>?_|refine Gi1 ?_|refine CW.drawsP (id := 1) [0,1,2,3,4,5,6,7,8,9,10,11,12] mixed (by kernel_rfl) ?_|refine CW.drawsP (id := 10) [0,1,3,4,5,2,6,7,8,9,10,11,12,13,14,15,16,17,18,19,20,21,22,23,24,25,26] mixed (by kernel_rfl) ?_|refine CW.drawsP (id := 11) [0,1,2,3,4,5,6,7,8,9,10,11,12,13,14,15,16,17,18,19,20,21,22] mixed (by kernel_rfl) ?_|refine CW.drawsP (id := 13) [0,1,2,3,4,5,6,7] mixed (by kernel_rfl) ?_|refine Gi2 (fun _=>?_) fun _=>?_|refine Gi3 ?_|refine Gi4 fun _=>?_|fail)
        obtain ⟨av, cv, rfl⟩ := svzs
        refine RW.y (yl_slHi (h' := (min p.size (max 1 x.size)).toNat) (j := min p.size (max 1 x.size)) inferInstance inferInstance inferInstance inferInstance ⟨rfl⟩ hrd ⟨by omega, by omega⟩) rfl ?_
        have hsl := hrd.sl (lo := 0) (hi := (min p.size (max 1 x.size)).toNat) (by omega) (by omega)
        have hsl2 : Rd D 1 (slV (.slice av p.b.length cv) 0 (min p.size (max 1 x.size)).toNat 1) (p.b.take (min p.size (max 1 x.size)).toNat).length (iv (p.b.take (min p.size (max 1 x.size)).toNat)) := by
          have e1 : (p.b.take (min p.size (max 1 x.size)).toNat).length = (min p.size (max 1 x.size)).toNat - 0 := by rw [List.length_take]; omega
          have e2 : ((iv p.b).drop (0 * 1)).take (((min p.size (max 1 x.size)).toNat - 0) * 1) = iv (p.b.take (min p.size (max 1 x.size)).toNat) := by simp [iv, List.map_take]
          rw [e1, ← e2]; exact hsl
        have ssl := hsl.sng
        repeat' (first|refine Gi0 fun _=>?_|refine Gi1 ?_|refine CW.drawsP (id := 1) [0,1,2,3,4,5,6,7,8,9,10,11,12] mixed (by kernel_rfl) ?_|refine CW.drawsP (id := 10) [0,1,3,4,5,2,6,7,8,9,10,11,12,13,14,15,16,17,18,19,20,21,22,23,24,25,26] mixed (by kernel_rfl) ?_|refine CW.drawsP (id := 11) [0,1,2,3,4,5,6,7,8,9,10,11,12,13,14,15,16,17,18,19,20,21,22] mixed (by kernel_rfl) ?_|refine CW.drawsP (id := 13) [0,1,2,3,4,5,6,7] mixed (by kernel_rfl) ?_|refine Gi2 (fun _=>?_) fun _=>?_|refine Gi3 ?_|refine Gi4 fun _=>?_|fail)
        refine RW.call (modelHand bm bp m hwf nd x.size 1 p.room o vb _ (p.b.take (min p.size (max 1 x.size)).toNat) D _ hr hb.to hor hsl2.to ⟨c2, c3⟩ (by rw [List.length_take]; omega) ⟨hs0, hs⟩ (by decide) ⟨by omega, by omega⟩) ?_
        intro u L' hh
        rcases hh with ⟨rfl, rfl, hne⟩ | ⟨he0, h2, bn, b, N, es', c', zs', rfl, rfl, hk', hz2, hp'⟩
        · refine pinAll ?_
          have est2 : Md.realloc m x o = handed m nd x.size 1 p.room o (p.b.take (min p.size (max 1 x.size)).toNat) := by rw [est, if_neg (fun h => hne h.1 h.2)]
          have hrow : RowR D L (Md.realloc m x o) (.tuple #[.pointer (some ⟨bm, 0, none⟩), .bool (handed m nd x.size 1 p.room o (p.b.take (min p.size (max 1 x.size)).toNat)).2]) L := by
            rw [est2]
            exact RowR.same hm hr fun e => handed_ne (hne e)
          cases hb2 : (handed m nd x.size 1 p.room o (p.b.take (min p.size (max 1 x.size)).toNat)).2 with
          | false =>
            rw [hb2] at hrow
            repeat' (first|refine Gi0 fun _=>?_|refine Gi1 ?_|refine CW.drawsP (id := 1) [0,1,2,3,4,5,6,7,8,9,10,11,12] mixed (by kernel_rfl) ?_|refine CW.drawsP (id := 10) [0,1,3,4,5,2,6,7,8,9,10,11,12,13,14,15,16,17,18,19,20,21,22,23,24,25,26] mixed (by kernel_rfl) ?_|refine CW.drawsP (id := 11) [0,1,2,3,4,5,6,7,8,9,10,11,12,13,14,15,16,17,18,19,20,21,22] mixed (by kernel_rfl) ?_|refine CW.drawsP (id := 13) [0,1,2,3,4,5,6,7] mixed (by kernel_rfl) ?_|refine Gi2 (fun _=>?_) fun _=>?_|refine Gi3 ?_|refine Gi4 fun _=>?_|fail)
            exact bodyK.retD L (Res.two Tryz.results150) hrow
          | true =>
            have he := hne hb2
            rw [hb2] at hrow
            repeat' (first|refine Gi0 fun _=>?_|refine Gi1 ?_|refine CW.drawsP (id := 1) [0,1,2,3,4,5,6,7,8,9,10,11,12] mixed (by kernel_rfl) ?_|refine CW.drawsP (id := 10) [0,1,3,4,5,2,6,7,8,9,10,11,12,13,14,15,16,17,18,19,20,21,22,23,24,25,26] mixed (by kernel_rfl) ?_|refine CW.drawsP (id := 11) [0,1,2,3,4,5,6,7,8,9,10,11,12,13,14,15,16,17,18,19,20,21,22] mixed (by kernel_rfl) ?_|refine CW.drawsP (id := 13) [0,1,2,3,4,5,6,7] mixed (by kernel_rfl) ?_|refine Gi2 (fun _=>?_) fun _=>?_|refine Gi3 ?_|refine Gi4 fun _=>?_|fail)
            exact bodyK.retD L (Res.two Tryz.results150) hrow
        · refine pinAll ?_
          have est2 : Md.realloc m x o = ({ m with L := ins (piece o.ad x.size nd.charge (p.b.take (min p.size (max 1 x.size)).toNat)) m.L : Mod }.without p.ad, true) := by rw [est, if_pos ⟨h2, he0⟩, handed_eq he0 h2]
          repeat' (first|refine Gi0 fun _=>?_|refine Gi1 ?_|refine Gi2 (fun _=>?_) fun _=>?_|refine Gi3 ?_|refine Gi4 fun _=>?_|fail)
          refine CW.drawsR [(bn, .cells (mcells m b).toArray 142 (0, 0)), (b8, .cells #[.int .u32 p.ad, .int .i64 p.size, .int .i64 p.room, .slice av p.b.length cv] 152 (0, 0))] [0, 1, 2, 3, 4, 5, 6, 7] mixed (by kernel_rfl) ?_
          repeat' (first|refine Gi0 fun _=>?_|refine Gi1 ?_|refine Gi2 (fun _=>?_) fun _=>?_|refine Gi3 ?_|refine Gi4 fun _=>?_|fail)
          refine RW.mapDel (m := b) (k := .u32) (j := p.ad) (c := c') (es := es') hk' (pinOld ?_)
          rw [updO_none]
          repeat' (first|refine Gi0 fun _=>?_|refine Gi1 ?_|refine Gi2 (fun _=>?_) fun _=>?_|refine Gi3 ?_|refine Gi4 fun _=>?_|fail)
          refine bodyK.retD ((bn, .cells (mcells m b).toArray 142 (0, 0)) :: (N ++ ((b, .map (delE p.ad es').toArray c') :: L))) (Res.two Tryz.results150) ?_
          rw [est2]
          exact rowDel2 hk' hz2 hp'
      | true =>
        have hsm : nd.small = false := by simpa using hq
        repeat' (first|refine Gi0 fun _=>?_|refine Gi1 ?_|refine CW.drawsP (id := 1) [0,1,2,3,4,5,6,7,8,9,10,11,12] mixed (by kernel_rfl) ?_|refine CW.drawsP (id := 10) [0,1,3,4,5,2,6,7,8,9,10,11,12,13,14,15,16,17,18,19,20,21,22,23,24,25,26] mixed (by kernel_rfl) ?_|refine CW.drawsP (id := 11) [0,1,2,3,4,5,6,7,8,9,10,11,12,13,14,15,16,17,18,19,20,21,22] mixed (by kernel_rfl) ?_|refine CW.drawsP (id := 13) [0,1,2,3,4,5,6,7] mixed (by kernel_rfl) ?_|refine Gi2 (fun _=>?_) fun _=>?_|refine Gi3 ?_|refine Gi4 fun _=>?_|fail)
        refine OW.call (modelGreat p vz okp _) ?_
        rintro _ _ ⟨rfl, rfl⟩
        by_cases hsite : (site (p.ad / 256)).1 = 3
        · rw [decide_eq_true hsite]
          by_cases hroom : p.room = nd.charge
          · have hmap : m.L.map (fun q => if q.ad = p.ad then { q with size := max 1 x.size } else q) = m.L.map fun q => if q.ad = p.ad then { p with size := max 1 x.size } else q := List.map_congr_left fun q hq => by
              split
              · rename_i he
                have := find_of hwf hq
                rw [he, find_of hwf hpm] at this
                cases this
                rfl
              · rfl
            have est := est1.trans (if_pos ⟨hsm, hsite, hroom⟩)
            rw [hmap] at est
            have hfp : findI es ({ p with size := max 1 x.size } : Pc).ad = some v := by rw [← hf, ← hza]
            obtain ⟨av, cv, rfl⟩ := svzs
            obtain ⟨ab, cb, rfl⟩ := hb.slice
            by_cases q1 : o.errno = 0
            · repeat' (first|refine Gi0 fun _=>?_|refine Gi1 ?_|refine CW.drawsP (id := 1) [0,1,2,3,4,5,6,7,8,9,10,11,12] mixed (by kernel_rfl) ?_|refine CW.drawsP (id := 10) [0,1,3,4,5,2,6,7,8,9,10,11,12,13,14,15,16,17,18,19,20,21,22,23,24,25,26] mixed (by kernel_rfl) ?_|refine CW.drawsP (id := 11) [0,1,2,3,4,5,6,7,8,9,10,11,12,13,14,15,16,17,18,19,20,21,22] mixed (by kernel_rfl) ?_|refine CW.drawsP (id := 13) [0,1,2,3,4,5,6,7] mixed (by kernel_rfl) ?_|refine Gi2 (fun _=>?_) fun _=>?_|refine Gi3 ?_|refine Gi4 fun _=>?_|fail)
              refine RW.call (modelWith bm bp c m es _ _ (fun es' c' N => es' = setE .u32 p.ad (pcV { p with size := max 1 x.size } (.slice av p.b.length cv)) es ∧ c' = c ∧ N = []) (fun b => ?_)) ?_
              · exact FnP.vp (first := #[]) (cap := #[.pointer (some ⟨b8, 0, none⟩)]) ((realloc1 b b8 c es { p with size := max 1 x.size } (.slice av p.b.length cv) v inferInstance _ hkv hfp).mono (fun _ L' e => ⟨[], _, _, e, rfl, rfl, rfl⟩) (fun _ _ h => h))
              rintro _ _ ⟨bn, b, N, es', c', rfl, rfl, e1, e2, e3⟩
              subst e1 e3
              obtain rfl := e2.symm
              refine pinAll ?_
              have hrow := rowSet (D := D) (L := L) (bn := bn) (b := b) (p := { p with size := max 1 x.size }) (v := .slice av p.b.length cv) (cnd := o.errno = 0 ∧ o.ad = p.ad ∧ o.n = 0 ∧ o.bytes = []) hkv hz hp hrd
              rw [← est] at hrow
              have fin : ∀ bb, bb = decide (o.errno = 0 ∧ o.ad = p.ad ∧ o.n = 0 ∧ o.bytes = []) → RowR D L (Md.realloc m x o) (.tuple #[.pointer (some ⟨bn, 0, none⟩), .bool bb]) ((bn, .cells (mcells m b).toArray 142 (0, 0)) :: (b, .map (setE .u32 p.ad (pcV { p with size := max 1 x.size } (.slice av p.b.length cv)) es).toArray c) :: L) := fun bb e => by rw [e]; exact hrow
              clear hrow
              by_cases q2 : o.ad = p.ad
              · by_cases q3 : o.n = 0
                · by_cases q4 : o.bytes.length = 0
                  · repeat' (first|refine Gi0 fun _=>?_|refine Gi1 ?_|refine CW.drawsP (id := 1) [0,1,2,3,4,5,6,7,8,9,10,11,12] mixed (by kernel_rfl) ?_|refine CW.drawsP (id := 10) [0,1,3,4,5,2,6,7,8,9,10,11,12,13,14,15,16,17,18,19,20,21,22,23,24,25,26] mixed (by kernel_rfl) ?_|refine CW.drawsP (id := 11) [0,1,2,3,4,5,6,7,8,9,10,11,12,13,14,15,16,17,18,19,20,21,22] mixed (by kernel_rfl) ?_|refine CW.drawsP (id := 13) [0,1,2,3,4,5,6,7] mixed (by kernel_rfl) ?_|refine Gi2 (fun _=>?_) fun _=>?_|refine Gi3 ?_|refine Gi4 fun _=>?_|fail)
                    exact bodyK.retD ((bn, .cells (mcells m b).toArray 142 (0, 0)) :: (b, .map (setE .u32 p.ad (pcV { p with size := max 1 x.size } (.slice av p.b.length cv)) es).toArray c) :: L) (Res.two Tryz.results150) (fin true (decide_eq_true ⟨q1, q2, q3, List.eq_nil_of_length_eq_zero q4⟩).symm)
                  · repeat' (first|refine Gi0 fun _=>?_|refine Gi1 ?_|refine CW.drawsP (id := 1) [0,1,2,3,4,5,6,7,8,9,10,11,12] mixed (by kernel_rfl) ?_|refine CW.drawsP (id := 10) [0,1,3,4,5,2,6,7,8,9,10,11,12,13,14,15,16,17,18,19,20,21,22,23,24,25,26] mixed (by kernel_rfl) ?_|refine CW.drawsP (id := 11) [0,1,2,3,4,5,6,7,8,9,10,11,12,13,14,15,16,17,18,19,20,21,22] mixed (by kernel_rfl) ?_|refine CW.drawsP (id := 13) [0,1,2,3,4,5,6,7] mixed (by kernel_rfl) ?_|refine Gi2 (fun _=>?_) fun _=>?_|refine Gi3 ?_|refine Gi4 fun _=>?_|fail)
                    exact bodyK.retD ((bn, .cells (mcells m b).toArray 142 (0, 0)) :: (b, .map (setE .u32 p.ad (pcV { p with size := max 1 x.size } (.slice av p.b.length cv)) es).toArray c) :: L) (Res.two Tryz.results150) (fin false (decide_eq_false fun h => q4 (by rw [h.2.2.2]; rfl)).symm)
                · repeat' (first|refine Gi0 fun _=>?_|refine Gi1 ?_|refine CW.drawsP (id := 1) [0,1,2,3,4,5,6,7,8,9,10,11,12] mixed (by kernel_rfl) ?_|refine CW.drawsP (id := 10) [0,1,3,4,5,2,6,7,8,9,10,11,12,13,14,15,16,17,18,19,20,21,22,23,24,25,26] mixed (by kernel_rfl) ?_|refine CW.drawsP (id := 11) [0,1,2,3,4,5,6,7,8,9,10,11,12,13,14,15,16,17,18,19,20,21,22] mixed (by kernel_rfl) ?_|refine CW.drawsP (id := 13) [0,1,2,3,4,5,6,7] mixed (by kernel_rfl) ?_|refine Gi2 (fun _=>?_) fun _=>?_|refine Gi3 ?_|refine Gi4 fun _=>?_|fail)
                  exact bodyK.retD ((bn, .cells (mcells m b).toArray 142 (0, 0)) :: (b, .map (setE .u32 p.ad (pcV { p with size := max 1 x.size } (.slice av p.b.length cv)) es).toArray c) :: L) (Res.two Tryz.results150) (fin false (decide_eq_false fun h => q3 h.2.2.1).symm)
              · repeat' (first|refine Gi0 fun _=>?_|refine Gi1 ?_|refine CW.drawsP (id := 1) [0,1,2,3,4,5,6,7,8,9,10,11,12] mixed (by kernel_rfl) ?_|refine CW.drawsP (id := 10) [0,1,3,4,5,2,6,7,8,9,10,11,12,13,14,15,16,17,18,19,20,21,22,23,24,25,26] mixed (by kernel_rfl) ?_|refine CW.drawsP (id := 11) [0,1,2,3,4,5,6,7,8,9,10,11,12,13,14,15,16,17,18,19,20,21,22] mixed (by kernel_rfl) ?_|refine CW.drawsP (id := 13) [0,1,2,3,4,5,6,7] mixed (by kernel_rfl) ?_|refine Gi2 (fun _=>?_) fun _=>?_|refine Gi3 ?_|refine Gi4 fun _=>?_|fail)
                exact bodyK.retD ((bn, .cells (mcells m b).toArray 142 (0, 0)) :: (b, .map (setE .u32 p.ad (pcV { p with size := max 1 x.size } (.slice av p.b.length cv)) es).toArray c) :: L) (Res.two Tryz.results150) (fin false (decide_eq_false fun h => q2 h.2.1).symm)
            · repeat' (first|refine Gi0 fun _=>?_|refine Gi1 ?_|refine CW.drawsP (id := 1) [0,1,2,3,4,5,6,7,8,9,10,11,12] mixed (by kernel_rfl) ?_|refine CW.drawsP (id := 10) [0,1,3,4,5,2,6,7,8,9,10,11,12,13,14,15,16,17,18,19,20,21,22,23,24,25,26] mixed (by kernel_rfl) ?_|refine CW.drawsP (id := 11) [0,1,2,3,4,5,6,7,8,9,10,11,12,13,14,15,16,17,18,19,20,21,22] mixed (by kernel_rfl) ?_|refine CW.drawsP (id := 13) [0,1,2,3,4,5,6,7] mixed (by kernel_rfl) ?_|refine Gi2 (fun _=>?_) fun _=>?_|refine Gi3 ?_|refine Gi4 fun _=>?_|fail)
              refine RW.call (modelWith bm bp c m es _ _ (fun es' c' N => es' = setE .u32 p.ad (pcV { p with size := max 1 x.size } (.slice av p.b.length cv)) es ∧ c' = c ∧ N = []) (fun b => ?_)) ?_
              · exact FnP.vp (first := #[]) (cap := #[.pointer (some ⟨b8, 0, none⟩)]) ((realloc1 b b8 c es { p with size := max 1 x.size } (.slice av p.b.length cv) v inferInstance _ hkv hfp).mono (fun _ L' e => ⟨[], _, _, e, rfl, rfl, rfl⟩) (fun _ _ h => h))
              rintro _ _ ⟨bn, b, N, es', c', rfl, rfl, e1, e2, e3⟩
              subst e1 e3
              obtain rfl := e2.symm
              refine pinAll ?_
              have hrow := rowSet (D := D) (L := L) (bn := bn) (b := b) (p := { p with size := max 1 x.size }) (v := .slice av p.b.length cv) (cnd := o.errno = 0 ∧ o.ad = p.ad ∧ o.n = 0 ∧ o.bytes = []) hkv hz hp hrd
              rw [← est] at hrow
              have fin : ∀ bb, bb = decide (o.errno = 0 ∧ o.ad = p.ad ∧ o.n = 0 ∧ o.bytes = []) → RowR D L (Md.realloc m x o) (.tuple #[.pointer (some ⟨bn, 0, none⟩), .bool bb]) ((bn, .cells (mcells m b).toArray 142 (0, 0)) :: (b, .map (setE .u32 p.ad (pcV { p with size := max 1 x.size } (.slice av p.b.length cv)) es).toArray c) :: L) := fun bb e => by rw [e]; exact hrow
              clear hrow
              repeat' (first|refine Gi0 fun _=>?_|refine Gi1 ?_|refine CW.drawsP (id := 1) [0,1,2,3,4,5,6,7,8,9,10,11,12] mixed (by kernel_rfl) ?_|refine CW.drawsP (id := 10) [0,1,3,4,5,2,6,7,8,9,10,11,12,13,14,15,16,17,18,19,20,21,22,23,24,25,26] mixed (by kernel_rfl) ?_|refine CW.drawsP (id := 11) [0,1,2,3,4,5,6,7,8,9,10,11,12,13,14,15,16,17,18,19,20,21,22] mixed (by kernel_rfl) ?_|refine CW.drawsP (id := 13) [0,1,2,3,4,5,6,7] mixed (by kernel_rfl) ?_|refine Gi2 (fun _=>?_) fun _=>?_|refine Gi3 ?_|refine Gi4 fun _=>?_|fail)
              exact bodyK.retD ((bn, .cells (mcells m b).toArray 142 (0, 0)) :: (b, .map (setE .u32 p.ad (pcV { p with size := max 1 x.size } (.slice av p.b.length cv)) es).toArray c) :: L) (Res.two Tryz.results150) (fin false (decide_eq_false fun h => q1 h.1).symm)
          · 
            have est := est1.trans (if_neg (fun h => hroom h.2.2))
            simp only at est
            repeat' (first|refine Gi0 fun _=>?_|refine Gi1 ?_|refine CW.drawsP (id := 1) [0,1,2,3,4,5,6,7,8,9,10,11,12] mixed (by kernel_rfl) ?_|refine CW.drawsP (id := 10) [0,1,3,4,5,2,6,7,8,9,10,11,12,13,14,15,16,17,18,19,20,21,22,23,24,25,26] mixed (by kernel_rfl) ?_|refine CW.drawsP (id := 11) [0,1,2,3,4,5,6,7,8,9,10,11,12,13,14,15,16,17,18,19,20,21,22] mixed (by kernel_rfl) ?_|refine CW.drawsP (id := 13) [0,1,2,3,4,5,6,7] mixed (by kernel_rfl) ?_|refine Gi2 (fun _=>?_) fun _=>?_|refine Gi3 ?_|refine Gi4 fun _=>?_|fail)
            obtain ⟨av, cv, rfl⟩ := svzs
            refine RW.y (yl_slHi (h' := (min p.size (max 1 x.size)).toNat) (j := min p.size (max 1 x.size)) inferInstance inferInstance inferInstance inferInstance ⟨rfl⟩ hrd ⟨by omega, by omega⟩) rfl ?_
            have hsl := hrd.sl (lo := 0) (hi := (min p.size (max 1 x.size)).toNat) (by omega) (by omega)
            have hsl2 : Rd D 1 (slV (.slice av p.b.length cv) 0 (min p.size (max 1 x.size)).toNat 1) (p.b.take (min p.size (max 1 x.size)).toNat).length (iv (p.b.take (min p.size (max 1 x.size)).toNat)) := by
              have e1 : (p.b.take (min p.size (max 1 x.size)).toNat).length = (min p.size (max 1 x.size)).toNat - 0 := by rw [List.length_take]; omega
              have e2 : ((iv p.b).drop (0 * 1)).take (((min p.size (max 1 x.size)).toNat - 0) * 1) = iv (p.b.take (min p.size (max 1 x.size)).toNat) := by simp [iv, List.map_take]
              rw [e1, ← e2]; exact hsl
            have ssl := hsl.sng
            repeat' (first|refine Gi0 fun _=>?_|refine Gi1 ?_|refine CW.drawsP (id := 1) [0,1,2,3,4,5,6,7,8,9,10,11,12] mixed (by kernel_rfl) ?_|refine CW.drawsP (id := 10) [0,1,3,4,5,2,6,7,8,9,10,11,12,13,14,15,16,17,18,19,20,21,22,23,24,25,26] mixed (by kernel_rfl) ?_|refine CW.drawsP (id := 11) [0,1,2,3,4,5,6,7,8,9,10,11,12,13,14,15,16,17,18,19,20,21,22] mixed (by kernel_rfl) ?_|refine CW.drawsP (id := 13) [0,1,2,3,4,5,6,7] mixed (by kernel_rfl) ?_|refine Gi2 (fun _=>?_) fun _=>?_|refine Gi3 ?_|refine Gi4 fun _=>?_|fail)
            refine RW.call (modelHand bm bp m hwf nd x.size 1 p.room o vb _ (p.b.take (min p.size (max 1 x.size)).toNat) D _ hr hb.to hor hsl2.to ⟨c2, c3⟩ (by rw [List.length_take]; omega) ⟨hs0, hs⟩ (by decide) ⟨by omega, by omega⟩) ?_
            intro u L' hh
            rcases hh with ⟨rfl, rfl, hne⟩ | ⟨he0, h2, bn, b, N, es', c', zs', rfl, rfl, hk', hz2, hp'⟩
            · refine pinAll ?_
              have est2 : Md.realloc m x o = handed m nd x.size 1 p.room o (p.b.take (min p.size (max 1 x.size)).toNat) := by rw [est, if_neg (fun h => hne h.1 h.2)]
              have hrow : RowR D L (Md.realloc m x o) (.tuple #[.pointer (some ⟨bm, 0, none⟩), .bool (handed m nd x.size 1 p.room o (p.b.take (min p.size (max 1 x.size)).toNat)).2]) L := by
                rw [est2]
                exact RowR.same hm hr fun e => handed_ne (hne e)
              cases hb2 : (handed m nd x.size 1 p.room o (p.b.take (min p.size (max 1 x.size)).toNat)).2 with
              | false =>
                rw [hb2] at hrow
                repeat' (first|refine Gi0 fun _=>?_|refine Gi1 ?_|refine CW.drawsP (id := 1) [0,1,2,3,4,5,6,7,8,9,10,11,12] mixed (by kernel_rfl) ?_|refine CW.drawsP (id := 10) [0,1,3,4,5,2,6,7,8,9,10,11,12,13,14,15,16,17,18,19,20,21,22,23,24,25,26] mixed (by kernel_rfl) ?_|refine CW.drawsP (id := 11) [0,1,2,3,4,5,6,7,8,9,10,11,12,13,14,15,16,17,18,19,20,21,22] mixed (by kernel_rfl) ?_|refine CW.drawsP (id := 13) [0,1,2,3,4,5,6,7] mixed (by kernel_rfl) ?_|refine Gi2 (fun _=>?_) fun _=>?_|refine Gi3 ?_|refine Gi4 fun _=>?_|fail)
                exact bodyK.retD L (Res.two Tryz.results150) hrow
              | true =>
                have he := hne hb2
                rw [hb2] at hrow
                repeat' (first|refine Gi0 fun _=>?_|refine Gi1 ?_|refine CW.drawsP (id := 1) [0,1,2,3,4,5,6,7,8,9,10,11,12] mixed (by kernel_rfl) ?_|refine CW.drawsP (id := 10) [0,1,3,4,5,2,6,7,8,9,10,11,12,13,14,15,16,17,18,19,20,21,22,23,24,25,26] mixed (by kernel_rfl) ?_|refine CW.drawsP (id := 11) [0,1,2,3,4,5,6,7,8,9,10,11,12,13,14,15,16,17,18,19,20,21,22] mixed (by kernel_rfl) ?_|refine CW.drawsP (id := 13) [0,1,2,3,4,5,6,7] mixed (by kernel_rfl) ?_|refine Gi2 (fun _=>?_) fun _=>?_|refine Gi3 ?_|refine Gi4 fun _=>?_|fail)
                exact bodyK.retD L (Res.two Tryz.results150) hrow
            · refine pinAll ?_
              have est2 : Md.realloc m x o = ({ m with L := ins (piece o.ad x.size nd.charge (p.b.take (min p.size (max 1 x.size)).toNat)) m.L : Mod }.without p.ad, true) := by rw [est, if_pos ⟨h2, he0⟩, handed_eq he0 h2]
              repeat' (first|refine Gi0 fun _=>?_|refine Gi1 ?_|refine Gi2 (fun _=>?_) fun _=>?_|refine Gi3 ?_|refine Gi4 fun _=>?_|fail)
              refine CW.drawsR [(bn, .cells (mcells m b).toArray 142 (0, 0)), (b8, .cells #[.int .u32 p.ad, .int .i64 p.size, .int .i64 p.room, .slice av p.b.length cv] 152 (0, 0))] [0, 1, 2, 3, 4, 5, 6, 7] mixed (by kernel_rfl) ?_
              repeat' (first|refine Gi0 fun _=>?_|refine Gi1 ?_|refine Gi2 (fun _=>?_) fun _=>?_|refine Gi3 ?_|refine Gi4 fun _=>?_|fail)
              refine RW.mapDel (m := b) (k := .u32) (j := p.ad) (c := c') (es := es') hk' (pinOld ?_)
              rw [updO_none]
              repeat' (first|refine Gi0 fun _=>?_|refine Gi1 ?_|refine Gi2 (fun _=>?_) fun _=>?_|refine Gi3 ?_|refine Gi4 fun _=>?_|fail)
              refine bodyK.retD ((bn, .cells (mcells m b).toArray 142 (0, 0)) :: (N ++ ((b, .map (delE p.ad es').toArray c') :: L))) (Res.two Tryz.results150) ?_
              rw [est2]
              exact rowDel2 hk' hz2 hp'
        · rw [decide_eq_false hsite]
          have est := est1.trans (if_neg (fun h => hsite h.2.1))
          simp only at est
          repeat' (first|refine Gi0 fun _=>?_|refine Gi1 ?_|refine CW.drawsP (id := 1) [0,1,2,3,4,5,6,7,8,9,10,11,12] mixed (by kernel_rfl) ?_|refine CW.drawsP (id := 10) [0,1,3,4,5,2,6,7,8,9,10,11,12,13,14,15,16,17,18,19,20,21,22,23,24,25,26] mixed (by kernel_rfl) ?_|refine CW.drawsP (id := 11) [0,1,2,3,4,5,6,7,8,9,10,11,12,13,14,15,16,17,18,19,20,21,22] mixed (by kernel_rfl) ?_|refine CW.drawsP (id := 13) [0,1,2,3,4,5,6,7] mixed (by kernel_rfl) ?_|refine Gi2 (fun _=>?_) fun _=>?_|refine Gi3 ?_|refine Gi4 fun _=>?_|fail)
          obtain ⟨av, cv, rfl⟩ := svzs
          refine RW.y (yl_slHi (h' := (min p.size (max 1 x.size)).toNat) (j := min p.size (max 1 x.size)) inferInstance inferInstance inferInstance inferInstance ⟨rfl⟩ hrd ⟨by omega, by omega⟩) rfl ?_
          have hsl := hrd.sl (lo := 0) (hi := (min p.size (max 1 x.size)).toNat) (by omega) (by omega)
          have hsl2 : Rd D 1 (slV (.slice av p.b.length cv) 0 (min p.size (max 1 x.size)).toNat 1) (p.b.take (min p.size (max 1 x.size)).toNat).length (iv (p.b.take (min p.size (max 1 x.size)).toNat)) := by
            have e1 : (p.b.take (min p.size (max 1 x.size)).toNat).length = (min p.size (max 1 x.size)).toNat - 0 := by rw [List.length_take]; omega
            have e2 : ((iv p.b).drop (0 * 1)).take (((min p.size (max 1 x.size)).toNat - 0) * 1) = iv (p.b.take (min p.size (max 1 x.size)).toNat) := by simp [iv, List.map_take]
            rw [e1, ← e2]; exact hsl
          have ssl := hsl.sng
          repeat' (first|refine Gi0 fun _=>?_|refine Gi1 ?_|refine CW.drawsP (id := 1) [0,1,2,3,4,5,6,7,8,9,10,11,12] mixed (by kernel_rfl) ?_|refine CW.drawsP (id := 10) [0,1,3,4,5,2,6,7,8,9,10,11,12,13,14,15,16,17,18,19,20,21,22,23,24,25,26] mixed (by kernel_rfl) ?_|refine CW.drawsP (id := 11) [0,1,2,3,4,5,6,7,8,9,10,11,12,13,14,15,16,17,18,19,20,21,22] mixed (by kernel_rfl) ?_|refine CW.drawsP (id := 13) [0,1,2,3,4,5,6,7] mixed (by kernel_rfl) ?_|refine Gi2 (fun _=>?_) fun _=>?_|refine Gi3 ?_|refine Gi4 fun _=>?_|fail)
          refine RW.call (modelHand bm bp m hwf nd x.size 1 p.room o vb _ (p.b.take (min p.size (max 1 x.size)).toNat) D _ hr hb.to hor hsl2.to ⟨c2, c3⟩ (by rw [List.length_take]; omega) ⟨hs0, hs⟩ (by decide) ⟨by omega, by omega⟩) ?_
          intro u L' hh
          rcases hh with ⟨rfl, rfl, hne⟩ | ⟨he0, h2, bn, b, N, es', c', zs', rfl, rfl, hk', hz2, hp'⟩
          · refine pinAll ?_
            have est2 : Md.realloc m x o = handed m nd x.size 1 p.room o (p.b.take (min p.size (max 1 x.size)).toNat) := by rw [est, if_neg (fun h => hne h.1 h.2)]
            have hrow : RowR D L (Md.realloc m x o) (.tuple #[.pointer (some ⟨bm, 0, none⟩), .bool (handed m nd x.size 1 p.room o (p.b.take (min p.size (max 1 x.size)).toNat)).2]) L := by
              rw [est2]
              exact RowR.same hm hr fun e => handed_ne (hne e)
            cases hb2 : (handed m nd x.size 1 p.room o (p.b.take (min p.size (max 1 x.size)).toNat)).2 with
            | false =>
              rw [hb2] at hrow
              repeat' (first|refine Gi0 fun _=>?_|refine Gi1 ?_|refine CW.drawsP (id := 1) [0,1,2,3,4,5,6,7,8,9,10,11,12] mixed (by kernel_rfl) ?_|refine CW.drawsP (id := 10) [0,1,3,4,5,2,6,7,8,9,10,11,12,13,14,15,16,17,18,19,20,21,22,23,24,25,26] mixed (by kernel_rfl) ?_|refine CW.drawsP (id := 11) [0,1,2,3,4,5,6,7,8,9,10,11,12,13,14,15,16,17,18,19,20,21,22] mixed (by kernel_rfl) ?_|refine CW.drawsP (id := 13) [0,1,2,3,4,5,6,7] mixed (by kernel_rfl) ?_|refine Gi2 (fun _=>?_) fun _=>?_|refine Gi3 ?_|refine Gi4 fun _=>?_|fail)
              exact bodyK.retD L (Res.two Tryz.results150) hrow
            | true =>
              have he := hne hb2
              rw [hb2] at hrow
              repeat' (first|refine Gi0 fun _=>?_|refine Gi1 ?_|refine CW.drawsP (id := 1) [0,1,2,3,4,5,6,7,8,9,10,11,12] mixed (by kernel_rfl) ?_|refine CW.drawsP (id := 10) [0,1,3,4,5,2,6,7,8,9,10,11,12,13,14,15,16,17,18,19,20,21,22,23,24,25,26] mixed (by kernel_rfl) ?_|refine CW.drawsP (id := 11) [0,1,2,3,4,5,6,7,8,9,10,11,12,13,14,15,16,17,18,19,20,21,22] mixed (by kernel_rfl) ?_|refine CW.drawsP (id := 13) [0,1,2,3,4,5,6,7] mixed (by kernel_rfl) ?_|refine Gi2 (fun _=>?_) fun _=>?_|refine Gi3 ?_|refine Gi4 fun _=>?_|fail)
              exact bodyK.retD L (Res.two Tryz.results150) hrow
          · refine pinAll ?_
            have est2 : Md.realloc m x o = ({ m with L := ins (piece o.ad x.size nd.charge (p.b.take (min p.size (max 1 x.size)).toNat)) m.L : Mod }.without p.ad, true) := by rw [est, if_pos ⟨h2, he0⟩, handed_eq he0 h2]
            repeat' (first|refine Gi0 fun _=>?_|refine Gi1 ?_|refine Gi2 (fun _=>?_) fun _=>?_|refine Gi3 ?_|refine Gi4 fun _=>?_|fail)
            refine CW.drawsR [(bn, .cells (mcells m b).toArray 142 (0, 0)), (b8, .cells #[.int .u32 p.ad, .int .i64 p.size, .int .i64 p.room, .slice av p.b.length cv] 152 (0, 0))] [0, 1, 2, 3, 4, 5, 6, 7] mixed (by kernel_rfl) ?_
            repeat' (first|refine Gi0 fun _=>?_|refine Gi1 ?_|refine Gi2 (fun _=>?_) fun _=>?_|refine Gi3 ?_|refine Gi4 fun _=>?_|fail)
            refine RW.mapDel (m := b) (k := .u32) (j := p.ad) (c := c') (es := es') hk' (pinOld ?_)
            rw [updO_none]
            repeat' (first|refine Gi0 fun _=>?_|refine Gi1 ?_|refine Gi2 (fun _=>?_) fun _=>?_|refine Gi3 ?_|refine Gi4 fun _=>?_|fail)
            refine bodyK.retD ((bn, .cells (mcells m b).toArray 142 (0, 0)) :: (N ++ ((b, .map (delE p.ad es').toArray c') :: L))) (Res.two Tryz.results150) ?_
            rw [est2]
            exact rowDel2 hk' hz2 hp'
  · have hfm : m.find x.ad = none := perm_find_none hp fun p hp' => by
      obtain ⟨z, hz', rfl⟩ := List.mem_map.1 hp'
      exact hz.find_none hkv hf z hz'
    have est : Md.realloc m x o = (m, decide (bareO o [320])) := by unfold Md.realloc; rw [hfm]
    repeat' (first|refine Gi0 fun _=>?_|refine Gi1 ?_|refine CW.drawsP (id := 1) [0,1,2,3,4,5,6,7,8,9,10,11,12] mixed (by kernel_rfl) ?_|refine CW.drawsP (id := 10) [0,1,3,4,5,2,6,7,8,9,10,11,12,13,14,15,16,17,18,19,20,21,22,23,24,25,26] mixed (by kernel_rfl) ?_|refine CW.drawsP (id := 11) [0,1,2,3,4,5,6,7,8,9,10,11,12,13,14,15,16,17,18,19,20,21,22] mixed (by kernel_rfl) ?_|refine CW.drawsP (id := 13) [0,1,2,3,4,5,6,7] mixed (by kernel_rfl) ?_|refine Gi2 (fun _=>?_) fun _=>?_|refine Gi3 ?_|refine Gi4 fun _=>?_|fail)
    refine OW.call (modelBare o vb _ [320] _ hb.to (Rd.blk (l := iv [320]) rfl (Nat.le_refl _)) (by decide)) ?_
    rintro _ _ ⟨rfl, rfl⟩
    generalize hbb : decide (bareO o [320]) = bb at est ⊢
    repeat' (first|refine Gi0 fun _=>?_|refine Gi1 ?_|refine CW.drawsP (id := 1) [0,1,2,3,4,5,6,7,8,9,10,11,12] mixed (by kernel_rfl) ?_|refine CW.drawsP (id := 10) [0,1,3,4,5,2,6,7,8,9,10,11,12,13,14,15,16,17,18,19,20,21,22,23,24,25,26] mixed (by kernel_rfl) ?_|refine CW.drawsP (id := 11) [0,1,2,3,4,5,6,7,8,9,10,11,12,13,14,15,16,17,18,19,20,21,22] mixed (by kernel_rfl) ?_|refine CW.drawsP (id := 13) [0,1,2,3,4,5,6,7] mixed (by kernel_rfl) ?_|refine Gi2 (fun _=>?_) fun _=>?_|refine Gi3 ?_|refine Gi4 fun _=>?_|fail)
    refine bodyK.retD L (Res.two Tryz.results150) ?_
    rw [est]
    exact RowR.same (r := (m, bb)) hm hr fun _ => rfl
end Go.Proofs.YtmnhooepaemlcaaGreat

namespace Go.Proofs.YtmnhooepaemlcaaGreat
open Go Go.Pw Go.Pw.Sc Go.Pw.Md
set_option maxRecDepth 100000
set_option maxHeartbeats 4000000
set_option synthInstance.maxHeartbeats 400000
set_option synthInstance.maxSize 2000
attribute [local irreducible] CW OW RW thenK blockK
attribute [local irreducible] scopeK loopK TRW ATW


@[reducible] def rowsE : List MapEntry := [⟨.int .i64 1, .func (.func 147) #[] #[], 0⟩, ⟨.int .i64 2, .func (.func 148) #[] #[], 1⟩, ⟨.int .i64 3, .func (.func 149) #[] #[], 2⟩, ⟨.int .i64 4, .func (.func 150) #[] #[], 3⟩, ⟨.int .i64 5, .func (.func 151) #[] #[], 4⟩, ⟨.int .i64 6, .func (.func 152) #[] #[], 5⟩, ⟨.int .i64 7, .func (.func 153) #[] #[], 6⟩]
theorem keysI_nil : keysI .i64 [] := fun _ h => (by cases h)
theorem keysI_snoc {es : List MapEntry} {j : Int} {v : Value} {c : Nat} (h : keysI .i64 es) : keysI .i64 (es ++ [⟨.int .i64 j, v, c⟩]) := fun e he => by
  rcases List.mem_append.1 he with he | he
  · exact h e he
  · rw [List.mem_singleton.1 he]; exact ⟨_, rfl⟩
theorem rowsKeys : keysI .i64 rowsE := fun e he => by
  simp only [rowsE, List.mem_cons, List.not_mem_nil, or_false] at he
  rcases he with rfl | rfl | rfl | rfl | rfl | rfl | rfl <;> exact ⟨_, rfl⟩
theorem modelRows (L : Chunk) : Fn1 Tryz.prog 109 [] L (fun u L' => ∃ b, u = .map (some b) ∧ L' = (b, .map rowsE.toArray 7) :: L) := by
  intro w0; refine Spec.enter0 Tryz.func109 rfl Tryz.ntmps109 ?_
  repeat' (first|refine Ga0 fun _=>?_|refine Ga1 ?_|refine Ga2 (fun _=>?_) fun _=>?_|refine Ga3 ?_|refine Ga4 fun _=>?_|fail)
  refine OW.u (h := ef_insertNew inferInstance inferInstance inferInstance inferInstance inferInstance inferInstance keysI_nil (by simp [findI]) inferInstance) ?_
  refine OW.u (h := ef_insertNew inferInstance inferInstance inferInstance inferInstance inferInstance inferInstance (keysI_snoc keysI_nil) (by simp [findI]) inferInstance) ?_
  refine OW.u (h := ef_insertNew inferInstance inferInstance inferInstance inferInstance inferInstance inferInstance (keysI_snoc (keysI_snoc keysI_nil)) (by simp [findI]) inferInstance) ?_
  refine OW.u (h := ef_insertNew inferInstance inferInstance inferInstance inferInstance inferInstance inferInstance (keysI_snoc (keysI_snoc (keysI_snoc keysI_nil))) (by simp [findI]) inferInstance) ?_
  refine OW.u (h := ef_insertNew inferInstance inferInstance inferInstance inferInstance inferInstance inferInstance (keysI_snoc (keysI_snoc (keysI_snoc (keysI_snoc keysI_nil)))) (by simp [findI]) inferInstance) ?_
  refine OW.u (h := ef_insertNew inferInstance inferInstance inferInstance inferInstance inferInstance inferInstance (keysI_snoc (keysI_snoc (keysI_snoc (keysI_snoc (keysI_snoc keysI_nil))))) (by simp [findI]) inferInstance) ?_
  refine OW.u (h := ef_insertNew inferInstance inferInstance inferInstance inferInstance inferInstance inferInstance (keysI_snoc (keysI_snoc (keysI_snoc (keysI_snoc (keysI_snoc (keysI_snoc keysI_nil)))))) (by simp [findI]) inferInstance) ?_
  repeat' (first|refine Ga0 fun _=>?_|refine Ga1 ?_|refine Ga2 (fun _=>?_) fun _=>?_|refine Ga3 ?_|refine Ga4 fun _=>?_|fail)
  exact bodyK.ret (Res.one Tryz.results109) ⟨_, rfl, rfl⟩

theorem rowVP (bm bp : Nat) (m : Mod) (hwf : WF m) (x : OpM) (hxr : OpR x) (o : OutM) (vx vb : Value) (D L : Chunk) (hvx : BS L vx x.bytes) [hm : InC L bm (.cells (mcells m bp).toArray 142 (0, 0))] [hD : MemC D L] (hr : MRest D bp m)
    (hb : BS L vb o.bytes) (hor : OutR o) {v : Value} (hf : findI rowsE x.kind = some v) : Sng v ∧ (1 ≤ x.kind ∧ x.kind ≤ 7) ∧ VP Tryz.prog v [.pointer (some ⟨bm, 0, none⟩), opV x vx, outV o vb] L (RowR D L (Md.step m x o)) noPanic := by
  have sx := hvx.sng
  by_cases h1 : x.kind = 1
  · simp [findI, h1] at hf; subst hf
    exact ⟨inferInstance, by omega, FnP.vp (first := #[]) (cap := #[]) (modelMalloc bm bp m hwf x hxr h1 o vx vb sx D L hr hb hor)⟩
  by_cases h2 : x.kind = 2
  · simp [findI, h2] at hf; subst hf
    exact ⟨inferInstance, by omega, FnP.vp (first := #[]) (cap := #[]) (modelCalloc bm bp m hwf x hxr h2 o vx vb sx D L hr hb hor)⟩
  by_cases h3 : x.kind = 3
  · simp [findI, h3] at hf; subst hf
    exact ⟨inferInstance, by omega, FnP.vp (first := #[]) (cap := #[]) (modelFree bm bp m hwf x hxr h3 o vx vb sx D L hr hb hor)⟩
  by_cases h4 : x.kind = 4
  · simp [findI, h4] at hf; subst hf
    have e : Md.step m x o = Md.realloc m x o := by unfold Md.step; rw [if_neg h1, if_neg h2, if_neg h3, if_pos h4]
    rw [e]
    exact ⟨inferInstance, by omega, FnP.vp (first := #[]) (cap := #[]) (modelRealloc bm bp m hwf x hxr o vx vb sx D L hr hb hor)⟩
  by_cases h5 : x.kind = 5
  · simp [findI, h5] at hf; subst hf
    exact ⟨inferInstance, by omega, FnP.vp (first := #[]) (cap := #[]) (modelUsable bm bp m hwf x hxr h5 o vx vb sx D L hr hb hor)⟩
  by_cases h6 : x.kind = 6
  · simp [findI, h6] at hf; subst hf
    exact ⟨inferInstance, by omega, FnP.vp (first := #[]) (cap := #[]) (modelLoad bm bp m hwf x hxr h6 o vx vb sx D L hr hb hor)⟩
  by_cases h7 : x.kind = 7
  · simp [findI, h7] at hf; subst hf
    exact ⟨inferInstance, by omega, FnP.vp (first := #[]) (cap := #[]) (modelStore bm bp m hwf x hxr h7 o vx vb D L hvx hr hb hor)⟩
  · simp [findI, h1, h2, h3, h4, h5, h6, h7] at hf
theorem rowNone {x : OpM} (hf : findI rowsE x.kind = none) : ¬ (1 ≤ x.kind ∧ x.kind ≤ 7) := fun h => by
  have : x.kind = 1 ∨ x.kind = 2 ∨ x.kind = 3 ∨ x.kind = 4 ∨ x.kind = 5 ∨ x.kind = 6 ∨ x.kind = 7 := by omega
  rcases this with h | h | h | h | h | h | h <;> simp [findI, h] at hf

/-- What next tells. -/
def NextR (D L : Chunk) (r : Mod × Bool) (e : Int) (u : Value) (L' : Chunk) : Prop :=
  ∃ N bn b2, u = .tuple #[.pointer (some ⟨bn, 0, none⟩), .bool r.2, .int .i64 e] ∧ L' = N ++ L ∧ (r.2 = true → InC L' bn (.cells (mcells r.1 b2).toArray 142 (0, 0)) ∧ MRest (N ++ D) b2 r.1)
theorem modelNext (bm bp : Nat) (m : Mod) (hwf : WF m) (x : OpM) (hxr : OpR x) (o : OutM) (vx vb : Value) (D L : Chunk) (hvx : BS L vx x.bytes) [hm : InC L bm (.cells (mcells m bp).toArray 142 (0, 0))] [hD : MemC D L] (hr : MRest D bp m)
    (hb : BS L vb o.bytes) (hor : OutR o) : Fn1 Tryz.prog 58 [.pointer (some ⟨bm, 0, none⟩), opV x vx, outV o vb] L (NextR D L (Md.next m x o) (nextE x)) := by
  have sx := hvx.sng
  have svb := hb.sng
  intro w0; refine Spec.enter3 Tryz.func58 rfl Tryz.ntmps58 (by decide) ?_
  have hm' := hm
  obtain ⟨k1, k2⟩ := hxr.kind
  repeat' (first|refine Gi0 fun _=>?_|refine Gi1 ?_|refine CW.drawsP (id := 3) [1,2,0,3,4,5,6,7,8] mixed (by kernel_rfl) ?_|refine Gi2 (fun _=>?_) fun _=>?_|refine Gi3 ?_|refine Gi4 fun _=>?_|fail)
  refine OW.call (modelNone bm bp m _) ?_
  rintro _ _ ⟨rfl, rfl⟩
  repeat' (first|refine Gi0 fun _=>?_|refine Gi1 ?_|refine CW.drawsP (id := 3) [1,2,0,3,4,5,6,7,8] mixed (by kernel_rfl) ?_|refine Gi2 (fun _=>?_) fun _=>?_|refine Gi3 ?_|refine Gi4 fun _=>?_|fail)
  refine RW.call (modelRows _) ?_
  rintro _ _ ⟨br, rfl, rfl⟩
  refine pinAll ?_
  repeat' (first|refine Gi0 fun _=>?_|refine Gi1 ?_|refine CW.drawsP (id := 3) [1,2,0,3,4,5,6,7,8] mixed (by kernel_rfl) ?_|refine Gi2 (fun _=>?_) fun _=>?_|refine Gi3 ?_|refine Gi4 fun _=>?_|fail)
  refine RW.lookOk (m := br) (c := 7) (es := rowsE) rowsKeys (fun v hf => ?_) (fun hf => ?_)
  · have hvp := fun L (hvx : BS L vx x.bytes) (hm : InC L bm (.cells (mcells m bp).toArray 142 (0, 0))) (hD : MemC D L) (hb : BS L vb o.bytes) => rowVP bm bp m hwf x hxr o vx vb D L hvx hr hb hor hf
    obtain ⟨sv, hk, _⟩ := hvp L hvx hm hD hb
    have e1 : Md.next m x o = Md.step m x o := by unfold Md.next; rw [if_pos hk]
    have e2 : nextE x = 0 := by unfold nextE; rw [if_pos hk]
    rw [e1, e2]
    repeat' (first|refine Gi0 fun _=>?_|refine Gi1 ?_|refine CW.drawsP (id := 3) [1,2,0,3,4,5,6,7,8] mixed (by kernel_rfl) ?_|refine Gi2 (fun _=>?_) fun _=>?_|refine Gi3 ?_|refine Gi4 fun _=>?_|fail)
    refine OW.callV1 ((hvp _ hvx.to inferInstance inferInstance hb.to).2.2) ?_
    intro u L' hrow
    have hrow2 : RowR D L (Md.step m x o) u L' := RowR.more (B := [_, _, _]) hrow
    clear hrow
    obtain ⟨N, bn, b2, rfl, rfl, hrow⟩ := hrow2
    generalize Md.step m x o = r at *
    obtain ⟨r1, r2⟩ := r
    simp only at hrow ⊢
    repeat' (first|refine Gi0 fun _=>?_|refine Gi1 ?_|refine CW.drawsP (id := 3) [1,2,0,3,4,5,6,7,8] mixed (by kernel_rfl) ?_|refine Gi2 (fun _=>?_) fun _=>?_|refine Gi3 ?_|refine Gi4 fun _=>?_|fail)
    exact bodyK.ret (Res.three Tryz.results58) ⟨N, bn, b2, rfl, rfl, hrow⟩
  · have hk := rowNone hf
    have e1 : Md.next m x o = (m, false) := by unfold Md.next; rw [if_neg hk]
    have e2 : nextE x = 2 := by unfold nextE; rw [if_neg hk]
    rw [e1, e2]
    repeat' (first|refine Gi0 fun _=>?_|refine Gi1 ?_|refine CW.drawsP (id := 3) [1,2,0,3,4,5,6,7,8] mixed (by kernel_rfl) ?_|refine Gi2 (fun _=>?_) fun _=>?_|refine Gi3 ?_|refine Gi4 fun _=>?_|fail)
    exact bodyK.retD L (Res.three Tryz.results58) ⟨[], bm, bp, rfl, rfl, fun h => (by cases h)⟩
end Go.Proofs.YtmnhooepaemlcaaGreat

namespace Go.Proofs.YtmnhooepaemlcaaGreat
open Go Go.Pw Go.Pw.Sc Go.Pw.Md
set_option maxRecDepth 100000
set_option maxHeartbeats 4000000
set_option synthInstance.maxHeartbeats 400000
set_option synthInstance.maxSize 2000
attribute [local irreducible] CW OW RW thenK blockK
attribute [local irreducible] scopeK loopK TRW ATW


theorem NextR.more {D B L : Chunk} {r : Mod × Bool} {e : Int} {u : Value} {L' : Chunk} (h : NextR D (B ++ L) r e u L') : NextR D L r e u L' := by
  obtain ⟨N, bn, b2, rfl, rfl, h⟩ := h
  refine ⟨N ++ B, bn, b2, rfl, by rw [List.append_assoc], fun e => ⟨(h e).1, ?_⟩⟩
  have : MemC (N ++ D) ((N ++ B) ++ D) := ⟨fun q hq => by
    simp only [List.mem_append] at hq ⊢
    rcases hq with h | h
    · exact .inl (.inl h)
    · exact .inr h⟩
  exact (h e).2.to
theorem mcells_after {m : Mod} {x : OpM} {o : OutM} {b : Nat} : mcells (after m x o) b = mcells m b := by
  have h := after_keeps m x o
  simp only [mcells, h.1, h.2]

theorem modelMay (bm bp : Nat) (m : Mod) (hwf : WF m) (x : OpM) (hxr : OpR x) (o : OutM) (vx vb : Value) (D L : Chunk) (hvx : BS L vx x.bytes) [hm : InC L bm (.cells (mcells m bp).toArray 142 (0, 0))] [hD : MemC D L] (hr : MRest D bp m)
    (hb : BS L vb o.bytes) (hor : OutR o) : Fn1 Tryz.prog 23 [.pointer (some ⟨bm, 0, none⟩), opV x vx, outV o vb] L (fun u L' => ∃ N, u = .tuple #[.bool (Md.next m x o).2, .int .i64 (nextE x)] ∧ L' = N ++ L) := by
  have sx := hvx.sng
  have svb := hb.sng
  intro w0; refine Spec.enter3 Tryz.func23 rfl Tryz.ntmps23 (by decide) ?_
  repeat' (first|refine Ga0 fun _=>?_|refine Ga1 ?_|refine Ga2 (fun _=>?_) fun _=>?_|refine Ga3 ?_|refine Ga4 fun _=>?_|fail)
  refine OW.call (modelNext bm bp m hwf x hxr o vx vb D _ hvx.to hr hb.to hor) ?_
  intro u L' hrow
  obtain ⟨N, bn, b2, rfl, rfl, _⟩ := NextR.more (B := [_, _]) hrow
  clear hrow
  generalize (Md.next m x o).2 = q
  generalize nextE x = e
  repeat' (first|refine Ga0 fun _=>?_|refine Ga1 ?_|refine Ga2 (fun _=>?_) fun _=>?_|refine Ga3 ?_|refine Ga4 fun _=>?_|fail)
  exact bodyK.ret (Res.two Tryz.results23) ⟨N, rfl, rfl⟩

theorem modelDo (bm bp : Nat) (m : Mod) (hwf : WF m) (x : OpM) (hxr : OpR x) (o : OutM) (vx vb : Value) (D L : Chunk) {C : Chunk → Chunk} (hvx : BS L vx x.bytes) [hat : At L [(bm, .cells (mcells m bp).toArray 142 (0, 0))] C] [hD : MemC D (C [])] (hr : MRest D bp m)
    (hb : BS L vb o.bytes) (hor : OutR o) : Fn1 Tryz.prog 20 [.pointer (some ⟨bm, 0, none⟩), opV x vx, outV o vb] L (fun u L' => ∃ N b2, u = .tuple #[.bool (Md.next m x o).2, .int .i64 (nextE x)] ∧ L' = N ++ C [(bm, .cells (mcells (after m x o) b2).toArray 142 (0, 0))] ∧ MRest (N ++ D) b2 (after m x o)) := by
  have sx := hvx.sng
  have svb := hb.sng
  obtain ⟨A, B, rfl, hC⟩ := hat.out
  obtain rfl : C = fun X => A ++ X ++ B := funext hC
  clear hat hC
  have hD' : MemC D (A ++ [(bm, Obj.cells (mcells m bp).toArray 142 (0, 0))] ++ B) := ⟨fun q hq => by
    have := hD.out q hq
    simp only [List.append_nil, List.mem_append] at this ⊢
    rcases this with h | h
    · exact .inl (.inl h)
    · exact .inr h⟩
  intro w0; refine Spec.enter3 Tryz.func20 rfl Tryz.ntmps20 (by decide) ?_
  repeat' (first|refine Ga0 fun _=>?_|refine Ga1 ?_|refine Ga2 (fun _=>?_) fun _=>?_|refine Ga3 ?_|refine Ga4 fun _=>?_|fail)
  refine OW.call (modelNext bm bp m hwf x hxr o vx vb D _ hvx.to hr hb.to hor) ?_
  intro u L' hrow
  have hrow2 : NextR D (A ++ [(bm, Obj.cells (mcells m bp).toArray 142 (0, 0))] ++ B) (Md.next m x o) (nextE x) u L' := NextR.more (B := [_, _]) hrow
  clear hrow
  obtain ⟨N, bn, b2, rfl, rfl, hrow⟩ := hrow2
  cases hq : (Md.next m x o).2 with
  | false =>
    have ea : after m x o = m := by unfold after; rw [hq]; rfl
    generalize nextE x = e
    repeat' (first|refine Ga0 fun _=>?_|refine Ga1 ?_|refine Ga2 (fun _=>?_) fun _=>?_|refine Ga3 ?_|refine Ga4 fun _=>?_|fail)
    refine bodyK.ret (Res.two Tryz.results20) ⟨N, bp, rfl, by rw [mcells_after], ?_⟩
    rw [ea]
    have : MemC D (N ++ D) := ⟨fun q h => List.mem_append_right _ h⟩
    exact hr.to
  | true =>
    have ea : after m x o = (Md.next m x o).1 := by unfold after; rw [hq]; rfl
    obtain ⟨hbn, hrest⟩ := hrow hq
    have hk := next_keeps m x o
    have em : mcells (Md.next m x o).1 b2 = mcells m b2 := by simp only [mcells, hk.1, hk.2]
    rw [em] at hbn
    generalize nextE x = e
    repeat' (first|refine Ga0 fun _=>?_|refine Ga1 ?_|refine Ga2 (fun _=>?_) fun _=>?_|refine Ga3 ?_|refine Ga4 fun _=>?_|fail)
    exact bodyK.ret (Res.two Tryz.results20) ⟨N, b2, rfl, by rw [mcells_after], by rw [ea]; exact hrest⟩

theorem modelByte (bm bp : Nat) (m : Mod) (hwf : WF m) (a : Int) (ha : 0 ≤ a ∧ a ≤ 4294967295) (D L : Chunk) [hm : InC L bm (.cells (mcells m bp).toArray 142 (0, 0))] [hD : MemC D L] (hr : MRest D bp m) :
    Fn1 Tryz.prog 22 [.pointer (some ⟨bm, 0, none⟩), .int .u32 a] L (fun u L' => u = .tuple #[.int .u8 (byteAt m a).1, .bool (byteAt m a).2.1, .bool (byteAt m a).2.2] ∧ L = L') := by
  intro w0; refine Spec.enter2 Tryz.func22 rfl Tryz.ntmps22 (by decide) ?_
  have hm' := hm
  obtain ⟨a1, a2⟩ := ha
  repeat' (first|refine Ga0 fun _=>?_|refine Ga1 ?_|refine Ga2 (fun _=>?_) fun _=>?_|refine Ga3 ?_|refine Ga4 fun _=>?_|fail)
  refine OW.call (modelNone bm bp m _) ?_
  rintro _ _ ⟨rfl, rfl⟩
  repeat' (first|refine Ga0 fun _=>?_|refine Ga1 ?_|refine Ga2 (fun _=>?_) fun _=>?_|refine Ga3 ?_|refine Ga4 fun _=>?_|fail)
  refine OW.call (modelIn bm bp m hwf a D _ hr) ?_
  rintro u _ ⟨hu, rfl⟩
  cases hi : m.inn a with
  | none =>
    rw [hi] at hu
    have e : byteAt m a = (0, false, false) := by unfold byteAt; rw [hi]
    rw [e]
    subst hu
    repeat' (first|refine Ga0 fun _=>?_|refine Ga1 ?_|refine Ga2 (fun _=>?_) fun _=>?_|refine Ga3 ?_|refine Ga4 fun _=>?_|fail)
    exact bodyK.retD L (Res.three Tryz.results22) ⟨rfl, rfl⟩
  | some p =>
    rw [hi] at hu
    obtain ⟨v, rfl, hrd⟩ := hu
    have sv := hrd.sng
    obtain ⟨hpm, p1, p2⟩ := inn_some hi
    have okp := hwf.ok p hpm
    have o1 := okp.ad
    have o2 := okp.fin
    have o3 := okp.len
    obtain ⟨d, hd⟩ : ∃ d : Nat, (d : Int) = a - p.ad := ⟨_, Int.toNat_of_nonneg (by omega)⟩
    have t1 : ToN (a - p.ad) d := ⟨by omega⟩
    have hdb : d < p.b.length := by omega
    have hby := okp.byt p.b[d] (List.getElem_mem _)
    have e : byteAt m a = if p.b[d] = -1 then (0, false, true) else (p.b[d], true, true) := by
      unfold byteAt
      rw [hi]
      simp only [t1.out, List.getD_eq_getElem?_getD, List.getElem?_eq_getElem hdb, Option.getD_some]
    obtain ⟨bb, ko, capb, lb, eb, frb, hbe, hbin, hbc, hbn⟩ := hrd.open1 (by omega)
    subst hbe
    have hbin' : InC L bb (.cells lb.toArray eb frb) := ⟨hD.out _ hbin.out⟩
    have n1 := hbn d _ hdb (iv_get hdb)
    generalize p.b[d] = z at *
    obtain ⟨z1, z2⟩ := hby
    by_cases hz : z = -1
    · rw [if_pos hz] at e
      rw [e]
      repeat' (first|refine Ga0 fun _=>?_|refine Ga1 ?_|refine Ga2 (fun _=>?_) fun _=>?_|refine Ga3 ?_|refine Ga4 fun _=>?_|fail)
      exact bodyK.retD L (Res.three Tryz.results22) ⟨rfl, rfl⟩
    · rw [if_neg hz] at e
      rw [e]
      repeat' (first|refine Ga1 ?_|refine Ga2 (fun _=>?_) fun _=>?_|refine Ga3 ?_|refine Ga4 fun _=>?_|fail)
      exact bodyK.retD L (Res.three Tryz.results22) ⟨rfl, rfl⟩

theorem modelNew (slot quota : Int) (L : Chunk) : Fn1 Tryz.prog 15 [.int .i64 slot, .int .i64 quota] L
    (fun u L' => if 0 ≤ slot ∧ slot < 4 ∧ 0 ≤ quota ∧ quota ≤ 1073741824 then ∃ bn bp, u = .tuple #[.pointer (some ⟨bn, 0, none⟩), .int .i64 0] ∧ L' = (bn, .cells (mcells ⟨slot, quota, []⟩ bp).toArray 142 (0, 0)) :: (bp, .map #[] 0) :: L else u = .tuple #[.pointer none, .int .i64 2] ∧ L = L') := by
  intro w0; refine Spec.enter2 Tryz.func15 rfl Tryz.ntmps15 (by decide) ?_
  repeat' (first|refine Ga0 fun _=>?_|refine Ga1 ?_|refine Ga2 (fun _=>?_) fun _=>?_|refine Ga3 ?_|refine Ga4 fun _=>?_|fail)
  refine OW.call (windowBase slot _) ?_
  rintro _ _ ⟨⟨b, rfl⟩, rfl⟩
  by_cases h1 : 0 ≤ slot ∧ slot < 4
  · rw [if_pos h1]
    by_cases h2 : 0 ≤ quota
    · by_cases h3 : quota ≤ 1073741824
      · repeat' (first|refine Ga0 fun _=>?_|refine Ga1 ?_|refine Ga2 (fun _=>?_) fun _=>?_|refine Ga3 ?_|refine Ga4 fun _=>?_|fail)
        refine bodyK.ret (Res.two Tryz.results15) ?_
        rw [if_pos ⟨h1.1, h1.2, h2, h3⟩]
        exact ⟨_, _, rfl, rfl⟩
      · repeat' (first|refine Ga0 fun _=>?_|refine Ga1 ?_|refine Ga2 (fun _=>?_) fun _=>?_|refine Ga3 ?_|refine Ga4 fun _=>?_|fail)
        refine bodyK.retD L (Res.two Tryz.results15) ?_
        rw [if_neg fun h => h3 h.2.2.2]
        exact ⟨rfl, rfl⟩
    · repeat' (first|refine Ga0 fun _=>?_|refine Ga1 ?_|refine Ga2 (fun _=>?_) fun _=>?_|refine Ga3 ?_|refine Ga4 fun _=>?_|fail)
      refine bodyK.retD L (Res.two Tryz.results15) ?_
      rw [if_neg fun h => h2 h.2.2.1]
      exact ⟨rfl, rfl⟩
  · rw [if_neg h1]
    repeat' (first|refine Ga0 fun _=>?_|refine Ga1 ?_|refine Ga2 (fun _=>?_) fun _=>?_|refine Ga3 ?_|refine Ga4 fun _=>?_|fail)
    refine bodyK.retD L (Res.two Tryz.results15) ?_
    rw [if_neg fun h => h1 ⟨h.1, h.2.1⟩]
    exact ⟨rfl, rfl⟩
end Go.Proofs.YtmnhooepaemlcaaGreat

namespace Go.Proofs.YtmnhooepaemlcaaGreat
open Go Go.Pw Go.Sort
set_option maxRecDepth 100000
set_option maxHeartbeats 4000000
set_option synthInstance.maxHeartbeats 400000
set_option synthInstance.maxSize 2000
attribute [local irreducible] CW OW RW thenK blockK
attribute [local irreducible] scopeK loopK TRW ATW

theorem isNaNU (x : Int) (L : Chunk) : Fn1 Tryz.prog 230 [.int .u32 x] L (fun u L' => u = .bool false ∧ L = L') := by
  intro w0; refine Spec.enter1 Tryz.func230 rfl Tryz.ntmps230 (by decide) ?_
  repeat' (first|refine Ga0 fun _=>?_|refine Ga1 ?_|refine Ga2 (fun _=>?_) fun _=>?_|refine Ga3 ?_|refine Ga4 fun _=>?_|fail)
  exact bodyK.retD L (Res.one Tryz.results230) ⟨rfl, rfl⟩
theorem lessU (x y : Int) (L : Chunk) : Fn1 Tryz.prog 192 [.int .u32 x, .int .u32 y] L (fun u L' => u = .bool (ltInt x y) ∧ L = L') := by
  intro w0; refine Spec.enter2 Tryz.func192 rfl Tryz.ntmps192 (by decide) ?_
  repeat' (first|refine Ga0 fun _=>?_|refine Ga1 ?_|refine Ga2 (fun _=>?_) fun _=>?_|refine Ga3 ?_|refine Ga4 fun _=>?_|fail)
  refine OW.call (isNaNU x _) ?_
  rintro _ _ ⟨rfl, rfl⟩
  unfold ltInt
  by_cases h : x < y
  · rw [decide_eq_true h]
    repeat' (first|refine Ga0 fun _=>?_|refine Ga1 ?_|refine Ga2 (fun _=>?_) fun _=>?_|refine Ga3 ?_|refine Ga4 fun _=>?_|fail)
    exact bodyK.retD L (Res.one Tryz.results192) ⟨rfl, rfl⟩
  · rw [decide_eq_false h]
    repeat' (first|refine Ga0 fun _=>?_|refine Ga1 ?_|refine Ga2 (fun _=>?_) fun _=>?_|refine Ga3 ?_|refine Ga4 fun _=>?_|fail)
    exact bodyK.retD L (Res.one Tryz.results192) ⟨rfl, rfl⟩

theorem insOuter_step {a b i : Nat} {d : Array Int} (h : i < b) : insOuter ltInt a b i d = insOuter ltInt a b (i + 1) (insInner ltInt a i d) := by
  rw [insOuter]; rw [if_pos h]
theorem insertionSortU (b cap m lo hi : Nat) (d : Array Int) (rest : List Value) (L : Chunk) (hd : Srt m d) (hlh : lo ≤ hi) (hhm : hi ≤ m) :
    Fn1 Tryz.prog 186 [.slice (some ⟨b, 0, none⟩) m cap, .int .i64 lo, .int .i64 hi] ((b, .cells (kvs .u32 d ++ rest).toArray 46 (0, 0)) :: L)
      (fun _ L' => L' = (b, .cells (kvs .u32 (insertionSort ltInt d lo hi) ++ rest).toArray 46 (0, 0)) :: L) := by
  intro w0; refine Spec.enter3 Tryz.func186 rfl Tryz.ntmps186 (by decide) ?_
  have hml := hd.len
  repeat' (first|refine Gi0 fun _=>?_|refine Gi1 ?_|refine CW.drawsP (id := 4) [0,1,2,3,4,5,6,7,8,9,10,11,12,13,14] mixed (by kernel_rfl) ?_|refine CW.drawsSw (id := 6) [0, 1, 2, 3, 4, 5, 6, 7, 8, 10, 11, 12] [9, 13] 14 [15, 16, 17] mixed (by kernel_rfl) ?_|refine Gi2 (fun _=>?_) fun _=>?_|refine Gi3 ?_|refine Gi4 fun _=>?_|fail)
  refine CW.loop (fun k ρ ds L' => ds = [] ∧ (∃ i d', L' = (b, .cells (kvs .u32 d' ++ rest).toArray 46 (0, 0)) :: L ∧ Srt m d' ∧ lo < i ∧ k = hi - i ∧ insOuter ltInt lo hi i d' = insertionSort ltInt d lo hi ∧ Ev ρ 6 (.int .i64 (i : Int))) ∧ Ev ρ 0 (.slice (some ⟨b, 0, none⟩) m cap) ∧ Ev ρ 1 (.int .i64 lo) ∧ Ev ρ 2 (.int .i64 hi)) (hi - (lo + 1))
    ⟨rfl, ⟨lo + 1, d, rfl, hd, by omega, rfl, rfl, by rw [Int.natCast_add]; infer_instance⟩, inferInstance, inferInstance, inferInstance⟩ ?_
  rintro k ρ ds L' ⟨rfl, ⟨i, d', rfl, hd', hi1, rfl, hfin, e6⟩, e0, e1, e2⟩
  by_cases hlt : i < hi
  · repeat' (first|refine Gi0 fun _=>?_|refine Gi1 ?_|refine CW.drawsP (id := 4) [0,1,2,3,4,5,6,7,8,9,10,11,12,13,14] mixed (by kernel_rfl) ?_|refine CW.drawsSw (id := 6) [0, 1, 2, 3, 4, 5, 6, 7, 8, 10, 11, 12] [9, 13] 14 [15, 16, 17] mixed (by kernel_rfl) ?_|refine Gi2 (fun _=>?_) fun _=>?_|refine Gi3 ?_|refine Gi4 fun _=>?_|fail)
    refine CW.loop (fun k ρ ds L' => ds = [] ∧ (∃ j d'', L' = (b, .cells (kvs .u32 d'' ++ rest).toArray 46 (0, 0)) :: L ∧ Srt m d'' ∧ j ≤ i ∧ j = k ∧ insInner ltInt lo j d'' = insInner ltInt lo i d' ∧ Ev ρ 7 (.int .i64 (j : Int))) ∧ Ev ρ 0 (.slice (some ⟨b, 0, none⟩) m cap) ∧ Ev ρ 1 (.int .i64 lo) ∧ Ev ρ 2 (.int .i64 hi) ∧ Ev ρ 6 (.int .i64 (i : Int))) i
      ⟨rfl, ⟨i, d', rfl, hd', by omega, rfl, rfl, inferInstance⟩, inferInstance, inferInstance, inferInstance, inferInstance⟩ ?_
    rintro k ρ ds L' ⟨rfl, ⟨j, d'', rfl, hd'', hj, rfl, hfj, e7⟩, e0, e1, e2, e6⟩
    by_cases hja : lo < j
    · obtain ⟨j, rfl⟩ : ∃ j', j = j' + 1 := ⟨j - 1, by omega⟩
      have l1 : LtS (j + 1) d''.size := ⟨by rw [hd''.size]; omega⟩
      have l2 : LtS j d''.size := ⟨by rw [hd''.size]; omega⟩
      have t1 : ToN (((j + 1 : Nat) : Int) - 1) j := ⟨by omega⟩
      repeat' (first|refine Gi0 fun _=>?_|refine Gi1 ?_|refine CW.drawsP (id := 4) [0,1,2,3,4,5,6,7,8,9,10,11,12,13,14] mixed (by kernel_rfl) ?_|refine CW.drawsSw (id := 6) [0, 1, 2, 3, 4, 5, 6, 7, 8, 10, 11, 12] [9, 13] 14 [15, 16, 17] mixed (by kernel_rfl) ?_|refine Gi2 (fun _=>?_) fun _=>?_|refine Gi3 ?_|refine Gi4 fun _=>?_|fail)
      refine RW.call (lessU _ _ _) ?_
      rintro _ _ ⟨rfl, rfl⟩
      refine pinAll ?_
      have hst := hfj
      rw [show insInner ltInt lo (j + 1) d'' = if j + 1 > lo && ltInt d''[j + 1]! d''[j]! then insInner ltInt lo j (swp d'' (j + 1) j) else d'' from rfl] at hst
      cases hc : ltInt d''[j + 1]! d''[j]! with
      | true =>
        rw [hc] at hst
        simp only [decide_eq_true hja, Bool.and_self, if_true, gt_iff_lt] at hst
        repeat' (first|refine Gi0 fun _=>?_|refine Gi1 ?_|refine CW.drawsP (id := 4) [0,1,2,3,4,5,6,7,8,9,10,11,12,13,14] mixed (by kernel_rfl) ?_|refine CW.drawsSw (id := 6) [0, 1, 2, 3, 4, 5, 6, 7, 8, 10, 11, 12] [9, 13] 14 [15, 16, 17] mixed (by kernel_rfl) ?_|refine Gi2 (fun _=>?_) fun _=>?_|refine Gi3 ?_|refine Gi4 fun _=>?_|fail)
        rw [show ((j + 1 : Nat) : Int) - 1 = (j : Int) by omega]
        exact ⟨j, by omega, rfl, ⟨j, swp d'' (j + 1) j, rfl, hd''.swp _ _, by omega, rfl, hst, inferInstance⟩, inferInstance, inferInstance, inferInstance, inferInstance⟩
      | false =>
        rw [hc] at hst
        simp only [Bool.and_false, Bool.false_eq_true, if_false] at hst
        subst hst
        repeat' (first|refine Gi0 fun _=>?_|refine Gi1 ?_|refine CW.drawsP (id := 4) [0,1,2,3,4,5,6,7,8,9,10,11,12,13,14] mixed (by kernel_rfl) ?_|refine CW.drawsSw (id := 6) [0, 1, 2, 3, 4, 5, 6, 7, 8, 10, 11, 12] [9, 13] 14 [15, 16, 17] mixed (by kernel_rfl) ?_|refine Gi2 (fun _=>?_) fun _=>?_|refine Gi3 ?_|refine Gi4 fun _=>?_|fail)
        exact ⟨hi - (i + 1), by omega, rfl, ⟨i + 1, _, rfl, hd'', by omega, rfl, by rw [← hfin]; rw [insOuter_step hlt], by rw [Int.natCast_add]; infer_instance⟩, inferInstance, inferInstance, inferInstance⟩
    · have hst : d'' = insInner ltInt lo i d' := by
        rw [← hfj]
        cases j with
        | zero => rfl
        | succ j => rw [show insInner ltInt lo (j + 1) d'' = if j + 1 > lo && ltInt d''[j + 1]! d''[j]! then insInner ltInt lo j (swp d'' (j + 1) j) else d'' from rfl, decide_eq_false (by omega)]; rfl
      subst hst
      repeat' (first|refine Gi0 fun _=>?_|refine Gi1 ?_|refine CW.drawsP (id := 4) [0,1,2,3,4,5,6,7,8,9,10,11,12,13,14] mixed (by kernel_rfl) ?_|refine CW.drawsSw (id := 6) [0, 1, 2, 3, 4, 5, 6, 7, 8, 10, 11, 12] [9, 13] 14 [15, 16, 17] mixed (by kernel_rfl) ?_|refine Gi2 (fun _=>?_) fun _=>?_|refine Gi3 ?_|refine Gi4 fun _=>?_|fail)
      exact ⟨hi - (i + 1), by omega, rfl, ⟨i + 1, _, rfl, hd'', by omega, rfl, by rw [← hfin]; rw [insOuter_step hlt], by rw [Int.natCast_add]; infer_instance⟩, inferInstance, inferInstance, inferInstance⟩
  · have hst : d' = insertionSort ltInt d lo hi := by
      rw [← hfin]; unfold insOuter; rw [if_neg hlt]
    repeat' (first|refine Gi0 fun _=>?_|refine Gi1 ?_|refine CW.drawsP (id := 4) [0,1,2,3,4,5,6,7,8,9,10,11,12,13,14] mixed (by kernel_rfl) ?_|refine CW.drawsSw (id := 6) [0, 1, 2, 3, 4, 5, 6, 7, 8, 10, 11, 12] [9, 13] 14 [15, 16, 17] mixed (by kernel_rfl) ?_|refine Gi2 (fun _=>?_) fun _=>?_|refine Gi3 ?_|refine Gi4 fun _=>?_|fail)
    exact bodyK.nrm (Res.zero Tryz.results186) (by rw [hst])
end Go.Proofs.YtmnhooepaemlcaaGreat

namespace Go.Proofs.YtmnhooepaemlcaaGreat
open Go Go.Pw Go.Sort
set_option maxRecDepth 100000
set_option maxHeartbeats 4000000
set_option synthInstance.maxHeartbeats 400000
set_option synthInstance.maxSize 2000
attribute [local irreducible] CW OW RW thenK blockK
attribute [local irreducible] scopeK loopK TRW ATW

theorem rev_step {i j : Nat} {d : Array Int} (h : i < j) : reverseLoop i j d = reverseLoop (i + 1) (j - 1) (swp d i j) := by rw [reverseLoop]; rw [if_pos h]
theorem rev_end {i j : Nat} {d : Array Int} (h : ¬ i < j) : reverseLoop i j d = d := by rw [reverseLoop]; rw [if_neg h]
theorem reverseRangeU (b cap m lo hi : Nat) (d : Array Int) (rest : List Value) (L : Chunk) (hd : Srt m d) (hlh : lo < hi) (hhm : hi ≤ m) :
    Fn1 Tryz.prog 190 [.slice (some ⟨b, 0, none⟩) m cap, .int .i64 lo, .int .i64 hi] ((b, .cells (kvs .u32 d ++ rest).toArray 46 (0, 0)) :: L)
      (fun _ L' => L' = (b, .cells (kvs .u32 (reverseRange d lo hi) ++ rest).toArray 46 (0, 0)) :: L) := by
  intro w0; refine Spec.enter3 Tryz.func190 rfl Tryz.ntmps190 (by decide) ?_
  have hml := hd.len
  obtain ⟨q, rfl⟩ : ∃ q, hi = q + 1 := ⟨hi - 1, by omega⟩
  repeat' (first|refine Gi0 fun _=>?_|refine Gi1 ?_|refine CW.drawsSw (id := 3) [0, 1, 2, 3, 4, 5, 6, 8, 9, 10] [7, 11] 12 [13, 14, 15] mixed (by kernel_rfl) ?_|refine Gi2 (fun _=>?_) fun _=>?_|refine Gi3 ?_|refine Gi4 fun _=>?_|fail)
  rw [show ((q + 1 : Nat) : Int) - 1 = (q : Int) by omega]
  repeat' (first|refine Gi0 fun _=>?_|refine Gi1 ?_|refine CW.drawsSw (id := 3) [0, 1, 2, 3, 4, 5, 6, 8, 9, 10] [7, 11] 12 [13, 14, 15] mixed (by kernel_rfl) ?_|refine Gi2 (fun _=>?_) fun _=>?_|refine Gi3 ?_|refine Gi4 fun _=>?_|fail)
  refine CW.loop (fun k ρ ds L' => ds = [] ∧ (∃ i j d', L' = (b, .cells (kvs .u32 d' ++ rest).toArray 46 (0, 0)) :: L ∧ Srt m d' ∧ j < m ∧ i ≤ m ∧ k = j + 1 - i ∧ reverseLoop i j d' = reverseLoop lo q d ∧ Ev ρ 6 (.int .i64 (i : Int)) ∧ Ev ρ 7 (.int .i64 (j : Int))) ∧ Ev ρ 0 (.slice (some ⟨b, 0, none⟩) m cap)) (q + 1 - lo)
    ⟨rfl, ⟨lo, q, d, rfl, hd, by omega, by omega, rfl, rfl, inferInstance, inferInstance⟩, inferInstance⟩ ?_
  rintro k ρ ds L' ⟨rfl, ⟨i, j, d', rfl, hd', hj, hi, rfl, hfin, e6, e7⟩, e0⟩
  by_cases hlt : i < j
  · rw [rev_step hlt] at hfin
    have l1 : LtS i d'.size := ⟨by rw [hd'.size]; omega⟩
    have l2 : LtS j d'.size := ⟨by rw [hd'.size]; omega⟩
    repeat' (first|refine Gi0 fun _=>?_|refine Gi1 ?_|refine CW.drawsSw (id := 3) [0, 1, 2, 3, 4, 5, 6, 8, 9, 10] [7, 11] 12 [13, 14, 15] mixed (by kernel_rfl) ?_|refine Gi2 (fun _=>?_) fun _=>?_|refine Gi3 ?_|refine Gi4 fun _=>?_|fail)
    rw [show (i : Int) + 1 = ((i + 1 : Nat) : Int) by omega, show (j : Int) - 1 = ((j - 1 : Nat) : Int) by omega]
    exact ⟨j - 1 + 1 - (i + 1), by omega, rfl, ⟨i + 1, j - 1, swp d' i j, rfl, hd'.swp _ _, by omega, by omega, rfl, hfin, inferInstance, inferInstance⟩, inferInstance⟩
  · rw [rev_end hlt] at hfin
    repeat' (first|refine Gi0 fun _=>?_|refine Gi1 ?_|refine CW.drawsSw (id := 3) [0, 1, 2, 3, 4, 5, 6, 8, 9, 10] [7, 11] 12 [13, 14, 15] mixed (by kernel_rfl) ?_|refine Gi2 (fun _=>?_) fun _=>?_|refine Gi3 ?_|refine Gi4 fun _=>?_|fail)
    exact bodyK.nrm (Res.zero Tryz.results190) (by rw [hfin]; rfl)

theorem sift_end {hi first root : Nat} {d : Array Int} (h : hi ≤ 2 * root + 1) : siftDown ltInt hi first root d = d := by rw [siftDown]; rw [dif_pos h]
theorem sift_two {hi first root : Nat} {d : Array Int} (h : 2 * root + 1 < hi) (h2 : 2 * root + 1 + 1 < hi) (hl : ltInt d[first + (2 * root + 1)]! d[first + (2 * root + 1) + 1]! = true) :
    siftDown ltInt hi first root d = if ltInt d[first + root]! d[first + (2 * root + 2)]! then siftDown ltInt hi first (2 * root + 2) (swp d (first + root) (first + (2 * root + 2))) else d := by
  rw [siftDown]
  rw [dif_neg (by omega), if_pos (by rw [decide_eq_true h2, hl]; rfl)]
  cases ltInt d[first + root]! d[first + (2 * root + 2)]!
  · rfl
  · simp only [Bool.not_true, Bool.false_eq_true, if_false, if_true]
    rw [dif_pos (by omega)]
theorem sift_one {hi first root : Nat} {d : Array Int} (h : 2 * root + 1 < hi) (h2 : ¬ (2 * root + 1 + 1 < hi ∧ ltInt d[first + (2 * root + 1)]! d[first + (2 * root + 1) + 1]! = true)) :
    siftDown ltInt hi first root d = if ltInt d[first + root]! d[first + (2 * root + 1)]! then siftDown ltInt hi first (2 * root + 1) (swp d (first + root) (first + (2 * root + 1))) else d := by
  rw [siftDown]
  rw [dif_neg (by omega), if_neg (by simpa using h2)]
  cases ltInt d[first + root]! d[first + (2 * root + 1)]! <;> rfl

theorem siftDownU (b cap m lo hi first : Nat) (d : Array Int) (rest : List Value) (L : Chunk) (hd : Srt m d) (hhm : first + hi ≤ m) (hlo : lo ≤ m) :
    Fn1 Tryz.prog 225 [.slice (some ⟨b, 0, none⟩) m cap, .int .i64 lo, .int .i64 hi, .int .i64 first] ((b, .cells (kvs .u32 d ++ rest).toArray 46 (0, 0)) :: L)
      (fun _ L' => L' = (b, .cells (kvs .u32 (siftDown ltInt hi first lo d) ++ rest).toArray 46 (0, 0)) :: L) := by
  intro w0; refine Spec.enter4 Tryz.func225 rfl Tryz.ntmps225 (by decide) ?_
  have hml := hd.len
  repeat' (first|refine Gi0 fun _=>?_|refine Gi1 ?_|refine CW.drawsP (id := 3) [0,1,2,3,4,5,6,7,8,9,10,11,12,13,14,15,16,17,18,19] mixed (by kernel_rfl) ?_|refine CW.drawsP (id := 5) [0,1,2,3,4,5,6,7,8,9,10,11,12,13] mixed (by kernel_rfl) ?_|refine CW.drawsSw (id := 6) [0, 1, 2, 3, 4, 5, 6, 7, 8, 9, 10, 11, 12, 14, 15, 16, 17, 18] [13, 19] 20 [21, 22, 23] mixed (by kernel_rfl) ?_|refine Gi2 (fun _=>?_) fun _=>?_|refine Gi3 ?_|refine Gi4 fun _=>?_|fail)
  refine CW.loop (fun k ρ ds L' => ds = [] ∧ (∃ r d', L' = (b, .cells (kvs .u32 d' ++ rest).toArray 46 (0, 0)) :: L ∧ Srt m d' ∧ r ≤ m ∧ k = m - r ∧ siftDown ltInt hi first r d' = siftDown ltInt hi first lo d ∧ Ev ρ 8 (.int .i64 (r : Int))) ∧ Ev ρ 0 (.slice (some ⟨b, 0, none⟩) m cap) ∧ Ev ρ 2 (.int .i64 hi) ∧ Ev ρ 3 (.int .i64 first)) (m - lo)
    ⟨rfl, ⟨lo, d, rfl, hd, hlo, rfl, rfl, inferInstance⟩, inferInstance, inferInstance, inferInstance⟩ ?_
  rintro k ρ ds L' ⟨rfl, ⟨r, d', rfl, hd', hrm, rfl, hfin, e8⟩, e0, e2, e3⟩
  by_cases hlt : 2 * r + 1 < hi
  · have l1 : LtS (first + (2 * r + 1)) d'.size := ⟨by rw [hd'.size]; omega⟩
    have l3 : LtS (first + r) d'.size := ⟨by rw [hd'.size]; omega⟩
    have t1 : ToN ((first : Int) + (2 * (r : Int) + 1)) (first + (2 * r + 1)) := ⟨by omega⟩
    have t2 : ToN ((first : Int) + (2 * (r : Int) + 1) + 1) (first + (2 * r + 1) + 1) := ⟨by omega⟩
    have t3 : ToN ((first : Int) + (r : Int)) (first + r) := ⟨by omega⟩
    have t4 : ToN ((first : Int) + (2 * (r : Int) + 1 + 1)) (first + (2 * r + 2)) := ⟨by omega⟩
    by_cases h2 : 2 * r + 1 + 1 < hi
    · have l2 : LtS (first + (2 * r + 1) + 1) d'.size := ⟨by rw [hd'.size]; omega⟩
      have l4 : LtS (first + (2 * r + 2)) d'.size := ⟨by rw [hd'.size]; omega⟩
      repeat' (first|refine Gi0 fun _=>?_|refine Gi1 ?_|refine CW.drawsP (id := 3) [0,1,2,3,4,5,6,7,8,9,10,11,12,13,14,15,16,17,18,19] mixed (by kernel_rfl) ?_|refine CW.drawsP (id := 5) [0,1,2,3,4,5,6,7,8,9,10,11,12,13] mixed (by kernel_rfl) ?_|refine CW.drawsSw (id := 6) [0, 1, 2, 3, 4, 5, 6, 7, 8, 9, 10, 11, 12, 14, 15, 16, 17, 18] [13, 19] 20 [21, 22, 23] mixed (by kernel_rfl) ?_|refine Gi2 (fun _=>?_) fun _=>?_|refine Gi3 ?_|refine Gi4 fun _=>?_|fail)
      refine RW.call (lessU _ _ _) ?_
      rintro _ _ ⟨rfl, rfl⟩
      refine pinAll ?_
      cases hc : ltInt d'[first + (2 * r + 1)]! d'[first + (2 * r + 1) + 1]! with
      | true =>
        rw [sift_two hlt h2 hc] at hfin
        repeat' (first|refine Gi0 fun _=>?_|refine Gi1 ?_|refine CW.drawsP (id := 3) [0,1,2,3,4,5,6,7,8,9,10,11,12,13,14,15,16,17,18,19] mixed (by kernel_rfl) ?_|refine CW.drawsP (id := 5) [0,1,2,3,4,5,6,7,8,9,10,11,12,13] mixed (by kernel_rfl) ?_|refine CW.drawsSw (id := 6) [0, 1, 2, 3, 4, 5, 6, 7, 8, 9, 10, 11, 12, 14, 15, 16, 17, 18] [13, 19] 20 [21, 22, 23] mixed (by kernel_rfl) ?_|refine Gi2 (fun _=>?_) fun _=>?_|refine Gi3 ?_|refine Gi4 fun _=>?_|fail)
        refine RW.call (lessU _ _ _) ?_
        rintro _ _ ⟨rfl, rfl⟩
        refine pinAll ?_
        cases hc2 : ltInt d'[first + r]! d'[first + (2 * r + 2)]! with
        | true =>
          rw [hc2, if_pos rfl] at hfin
          repeat' (first|refine Gi0 fun _=>?_|refine Gi1 ?_|refine CW.drawsP (id := 3) [0,1,2,3,4,5,6,7,8,9,10,11,12,13,14,15,16,17,18,19] mixed (by kernel_rfl) ?_|refine CW.drawsP (id := 5) [0,1,2,3,4,5,6,7,8,9,10,11,12,13] mixed (by kernel_rfl) ?_|refine CW.drawsSw (id := 6) [0, 1, 2, 3, 4, 5, 6, 7, 8, 9, 10, 11, 12, 14, 15, 16, 17, 18] [13, 19] 20 [21, 22, 23] mixed (by kernel_rfl) ?_|refine Gi2 (fun _=>?_) fun _=>?_|refine Gi3 ?_|refine Gi4 fun _=>?_|fail)
          exact ⟨m - (2 * r + 2), by omega, rfl, ⟨2 * r + 2, swp d' (first + r) (first + (2 * r + 2)), rfl, hd'.swp _ _, by omega, rfl, hfin, by rw [show ((2 * r + 2 : Nat) : Int) = 2 * (r : Int) + 1 + 1 by omega]; infer_instance⟩, inferInstance, inferInstance, inferInstance⟩
        | false =>
          rw [hc2] at hfin
          simp only [Bool.false_eq_true, if_false] at hfin
          repeat' (first|refine Gi0 fun _=>?_|refine Gi1 ?_|refine CW.drawsP (id := 3) [0,1,2,3,4,5,6,7,8,9,10,11,12,13,14,15,16,17,18,19] mixed (by kernel_rfl) ?_|refine CW.drawsP (id := 5) [0,1,2,3,4,5,6,7,8,9,10,11,12,13] mixed (by kernel_rfl) ?_|refine CW.drawsSw (id := 6) [0, 1, 2, 3, 4, 5, 6, 7, 8, 9, 10, 11, 12, 14, 15, 16, 17, 18] [13, 19] 20 [21, 22, 23] mixed (by kernel_rfl) ?_|refine Gi2 (fun _=>?_) fun _=>?_|refine Gi3 ?_|refine Gi4 fun _=>?_|fail)
          exact bodyK.ret (Res.zero Tryz.results225) (by rw [hfin])
      | false =>
        rw [sift_one hlt (by rw [hc]; simp)] at hfin
        repeat' (first|refine Gi0 fun _=>?_|refine Gi1 ?_|refine CW.drawsP (id := 3) [0,1,2,3,4,5,6,7,8,9,10,11,12,13,14,15,16,17,18,19] mixed (by kernel_rfl) ?_|refine CW.drawsP (id := 5) [0,1,2,3,4,5,6,7,8,9,10,11,12,13] mixed (by kernel_rfl) ?_|refine CW.drawsSw (id := 6) [0, 1, 2, 3, 4, 5, 6, 7, 8, 9, 10, 11, 12, 14, 15, 16, 17, 18] [13, 19] 20 [21, 22, 23] mixed (by kernel_rfl) ?_|refine Gi2 (fun _=>?_) fun _=>?_|refine Gi3 ?_|refine Gi4 fun _=>?_|fail)
        refine RW.call (lessU _ _ _) ?_
        rintro _ _ ⟨rfl, rfl⟩
        refine pinAll ?_
        cases hc2 : ltInt d'[first + r]! d'[first + (2 * r + 1)]! with
        | true =>
          rw [hc2, if_pos rfl] at hfin
          repeat' (first|refine Gi0 fun _=>?_|refine Gi1 ?_|refine CW.drawsP (id := 3) [0,1,2,3,4,5,6,7,8,9,10,11,12,13,14,15,16,17,18,19] mixed (by kernel_rfl) ?_|refine CW.drawsP (id := 5) [0,1,2,3,4,5,6,7,8,9,10,11,12,13] mixed (by kernel_rfl) ?_|refine CW.drawsSw (id := 6) [0, 1, 2, 3, 4, 5, 6, 7, 8, 9, 10, 11, 12, 14, 15, 16, 17, 18] [13, 19] 20 [21, 22, 23] mixed (by kernel_rfl) ?_|refine Gi2 (fun _=>?_) fun _=>?_|refine Gi3 ?_|refine Gi4 fun _=>?_|fail)
          exact ⟨m - (2 * r + 1), by omega, rfl, ⟨2 * r + 1, swp d' (first + r) (first + (2 * r + 1)), rfl, hd'.swp _ _, by omega, rfl, hfin, by rw [show ((2 * r + 1 : Nat) : Int) = 2 * (r : Int) + 1 by omega]; infer_instance⟩, inferInstance, inferInstance, inferInstance⟩
        | false =>
          rw [hc2] at hfin
          simp only [Bool.false_eq_true, if_false] at hfin
          repeat' (first|refine Gi0 fun _=>?_|refine Gi1 ?_|refine CW.drawsP (id := 3) [0,1,2,3,4,5,6,7,8,9,10,11,12,13,14,15,16,17,18,19] mixed (by kernel_rfl) ?_|refine CW.drawsP (id := 5) [0,1,2,3,4,5,6,7,8,9,10,11,12,13] mixed (by kernel_rfl) ?_|refine CW.drawsSw (id := 6) [0, 1, 2, 3, 4, 5, 6, 7, 8, 9, 10, 11, 12, 14, 15, 16, 17, 18] [13, 19] 20 [21, 22, 23] mixed (by kernel_rfl) ?_|refine Gi2 (fun _=>?_) fun _=>?_|refine Gi3 ?_|refine Gi4 fun _=>?_|fail)
          exact bodyK.ret (Res.zero Tryz.results225) (by rw [hfin])
    · rw [sift_one hlt (fun h => h2 h.1)] at hfin
      repeat' (first|refine Gi0 fun _=>?_|refine Gi1 ?_|refine CW.drawsP (id := 3) [0,1,2,3,4,5,6,7,8,9,10,11,12,13,14,15,16,17,18,19] mixed (by kernel_rfl) ?_|refine CW.drawsP (id := 5) [0,1,2,3,4,5,6,7,8,9,10,11,12,13] mixed (by kernel_rfl) ?_|refine CW.drawsSw (id := 6) [0, 1, 2, 3, 4, 5, 6, 7, 8, 9, 10, 11, 12, 14, 15, 16, 17, 18] [13, 19] 20 [21, 22, 23] mixed (by kernel_rfl) ?_|refine Gi2 (fun _=>?_) fun _=>?_|refine Gi3 ?_|refine Gi4 fun _=>?_|fail)
      refine RW.call (lessU _ _ _) ?_
      rintro _ _ ⟨rfl, rfl⟩
      refine pinAll ?_
      cases hc2 : ltInt d'[first + r]! d'[first + (2 * r + 1)]! with
      | true =>
        rw [hc2, if_pos rfl] at hfin
        repeat' (first|refine Gi0 fun _=>?_|refine Gi1 ?_|refine CW.drawsP (id := 3) [0,1,2,3,4,5,6,7,8,9,10,11,12,13,14,15,16,17,18,19] mixed (by kernel_rfl) ?_|refine CW.drawsP (id := 5) [0,1,2,3,4,5,6,7,8,9,10,11,12,13] mixed (by kernel_rfl) ?_|refine CW.drawsSw (id := 6) [0, 1, 2, 3, 4, 5, 6, 7, 8, 9, 10, 11, 12, 14, 15, 16, 17, 18] [13, 19] 20 [21, 22, 23] mixed (by kernel_rfl) ?_|refine Gi2 (fun _=>?_) fun _=>?_|refine Gi3 ?_|refine Gi4 fun _=>?_|fail)
        exact ⟨m - (2 * r + 1), by omega, rfl, ⟨2 * r + 1, swp d' (first + r) (first + (2 * r + 1)), rfl, hd'.swp _ _, by omega, rfl, hfin, by rw [show ((2 * r + 1 : Nat) : Int) = 2 * (r : Int) + 1 by omega]; infer_instance⟩, inferInstance, inferInstance, inferInstance⟩
      | false =>
        rw [hc2] at hfin
        simp only [Bool.false_eq_true, if_false] at hfin
        repeat' (first|refine Gi0 fun _=>?_|refine Gi1 ?_|refine CW.drawsP (id := 3) [0,1,2,3,4,5,6,7,8,9,10,11,12,13,14,15,16,17,18,19] mixed (by kernel_rfl) ?_|refine CW.drawsP (id := 5) [0,1,2,3,4,5,6,7,8,9,10,11,12,13] mixed (by kernel_rfl) ?_|refine CW.drawsSw (id := 6) [0, 1, 2, 3, 4, 5, 6, 7, 8, 9, 10, 11, 12, 14, 15, 16, 17, 18] [13, 19] 20 [21, 22, 23] mixed (by kernel_rfl) ?_|refine Gi2 (fun _=>?_) fun _=>?_|refine Gi3 ?_|refine Gi4 fun _=>?_|fail)
        exact bodyK.ret (Res.zero Tryz.results225) (by rw [hfin])
  · rw [sift_end (by omega)] at hfin
    repeat' (first|refine Gi0 fun _=>?_|refine Gi1 ?_|refine CW.drawsP (id := 3) [0,1,2,3,4,5,6,7,8,9,10,11,12,13,14,15,16,17,18,19] mixed (by kernel_rfl) ?_|refine CW.drawsP (id := 5) [0,1,2,3,4,5,6,7,8,9,10,11,12,13] mixed (by kernel_rfl) ?_|refine CW.drawsSw (id := 6) [0, 1, 2, 3, 4, 5, 6, 7, 8, 9, 10, 11, 12, 14, 15, 16, 17, 18] [13, 19] 20 [21, 22, 23] mixed (by kernel_rfl) ?_|refine Gi2 (fun _=>?_) fun _=>?_|refine Gi3 ?_|refine Gi4 fun _=>?_|fail)
    exact bodyK.nrm (Res.zero Tryz.results225) (by rw [hfin])
end Go.Proofs.YtmnhooepaemlcaaGreat

namespace Go.Proofs.YtmnhooepaemlcaaGreat
open Go Go.Pw Go.Sort
set_option maxRecDepth 100000
set_option maxHeartbeats 4000000
set_option synthInstance.maxHeartbeats 400000
set_option synthInstance.maxSize 2000
attribute [local irreducible] CW OW RW thenK blockK
attribute [local irreducible] scopeK loopK TRW ATW

theorem sift_size {hi first : Nat} : ∀ (n root : Nat) (d : Array Int), hi - root ≤ n → (siftDown ltInt hi first root d).size = d.size
  | 0, root, d, h => by rw [sift_end (by omega)]
  | n + 1, root, d, h => by
    by_cases h1 : 2 * root + 1 < hi
    · by_cases h2 : 2 * root + 1 + 1 < hi ∧ ltInt d[first + (2 * root + 1)]! d[first + (2 * root + 1) + 1]! = true
      · rw [sift_two h1 h2.1 h2.2]
        split
        · rw [sift_size n _ _ (by omega), size_swp]
        · rfl
      · rw [sift_one h1 h2]
        split
        · rw [sift_size n _ _ (by omega), size_swp]
        · rfl
    · rw [sift_end (by omega)]
theorem siftS {m hi first root : Nat} {d : Array Int} (h : Srt m d) : Srt m (siftDown ltInt hi first root d) := ⟨by rw [sift_size _ _ _ (Nat.le_refl _)]; exact h.size, h.len⟩
theorem heapSortU (b cap m lo hi : Nat) (d : Array Int) (rest : List Value) (L : Chunk) (hd : Srt m d) (hlh : lo < hi) (hhm : hi ≤ m) :
    Fn1 Tryz.prog 187 [.slice (some ⟨b, 0, none⟩) m cap, .int .i64 lo, .int .i64 hi] ((b, .cells (kvs .u32 d ++ rest).toArray 46 (0, 0)) :: L)
      (fun _ L' => L' = (b, .cells (kvs .u32 (heapSort ltInt d lo hi) ++ rest).toArray 46 (0, 0)) :: L) := by
  intro w0; refine Spec.enter3 Tryz.func187 rfl Tryz.ntmps187 (by decide) ?_
  have hml := hd.len
  obtain ⟨l, rfl⟩ : ∃ l, hi = lo + l + 1 := ⟨hi - lo - 1, by omega⟩
  repeat' (first|refine Gj0 fun _=>?_|refine Gj1 ?_|refine CW.drawsSw (id := 10) [0, 1, 2, 3, 4, 5, 6, 7, 8, 9, 10, 12, 13, 14] [11, 15] 16 [17, 18, 19] mixed (by kernel_rfl) ?_|refine Gj2 (fun _=>?_) fun _=>?_|refine Gj3 ?_|refine Gj4 fun _=>?_|fail)
  rw [show ((lo + l + 1 : Nat) : Int) - (lo : Int) - 1 = ((l : Nat) : Int) by omega, show ((lo + l + 1 : Nat) : Int) - (lo : Int) = ((l + 1 : Nat) : Int) by omega, show ((l : Nat) : Int) / 2 = ((l / 2 : Nat) : Int) by omega]
  have hfin0 : heapSort ltInt d lo (lo + l + 1) = heapPop ltInt lo (l + 1) (heapBuild ltInt (l + 1) lo (l / 2 + 1) d) := by
    unfold heapSort
    rw [show lo + l + 1 - lo = l + 1 by omega, Nat.add_sub_cancel]
  rw [hfin0]
  clear hfin0
  repeat' (first|refine Gj0 fun _=>?_|refine Gj1 ?_|refine CW.drawsSw (id := 10) [0, 1, 2, 3, 4, 5, 6, 7, 8, 9, 10, 12, 13, 14] [11, 15] 16 [17, 18, 19] mixed (by kernel_rfl) ?_|refine Gj2 (fun _=>?_) fun _=>?_|refine Gj3 ?_|refine Gj4 fun _=>?_|fail)
  refine CW.loop (fun k ρ ds L' => ds = [] ∧ (∃ d', L' = (b, .cells (kvs .u32 d' ++ rest).toArray 46 (0, 0)) :: L ∧ Srt m d' ∧ k ≤ l / 2 + 1 ∧ heapBuild ltInt (l + 1) lo k d' = heapBuild ltInt (l + 1) lo (l / 2 + 1) d) ∧ Ev ρ 9 (.int .i64 ((k : Int) - 1)) ∧ Ev ρ 0 (.slice (some ⟨b, 0, none⟩) m cap) ∧ Ev ρ 6 (.int .i64 lo) ∧ Ev ρ 7 (.int .i64 0) ∧ Ev ρ 8 (.int .i64 ((l + 1 : Nat) : Int))) (l / 2 + 1)
    ⟨rfl, ⟨d, rfl, hd, Nat.le_refl _, rfl⟩, by rw [show ((l / 2 + 1 : Nat) : Int) - 1 = ((l / 2 : Nat) : Int) by omega]; infer_instance, inferInstance, inferInstance, inferInstance, inferInstance⟩ ?_
  rintro k ρ ds L' ⟨rfl, ⟨d', rfl, hd', hk, hfin⟩, e9, e0, e6, e7, e8⟩
  cases k with
  | succ k =>
    rw [show ((k + 1 : Nat) : Int) - 1 = (k : Int) by omega] at e9
    repeat' (first|refine Gj0 fun _=>?_|refine Gj1 ?_|refine CW.drawsSw (id := 10) [0, 1, 2, 3, 4, 5, 6, 7, 8, 9, 10, 12, 13, 14] [11, 15] 16 [17, 18, 19] mixed (by kernel_rfl) ?_|refine Gj2 (fun _=>?_) fun _=>?_|refine Gj3 ?_|refine Gj4 fun _=>?_|fail)
    refine OW.call (siftDownU b cap m k (l + 1) lo d' rest L hd' (by omega) (by omega)) ?_
    rintro _ _ rfl
    repeat' (first|refine Gj0 fun _=>?_|refine Gj1 ?_|refine CW.drawsSw (id := 10) [0, 1, 2, 3, 4, 5, 6, 7, 8, 9, 10, 12, 13, 14] [11, 15] 16 [17, 18, 19] mixed (by kernel_rfl) ?_|refine Gj2 (fun _=>?_) fun _=>?_|refine Gj3 ?_|refine Gj4 fun _=>?_|fail)
    exact ⟨k, by omega, rfl, ⟨_, rfl, siftS hd', by omega, hfin⟩, inferInstance, inferInstance, inferInstance, inferInstance, inferInstance⟩
  | zero =>
    rw [← hfin]
    rw [show ((0 : Nat) : Int) - 1 = -1 by omega] at e9
    repeat' (first|refine Gj0 fun _=>?_|refine Gj1 ?_|refine CW.drawsSw (id := 10) [0, 1, 2, 3, 4, 5, 6, 7, 8, 9, 10, 12, 13, 14] [11, 15] 16 [17, 18, 19] mixed (by kernel_rfl) ?_|refine Gj2 (fun _=>?_) fun _=>?_|refine Gj3 ?_|refine Gj4 fun _=>?_|fail)
    rw [show ((l + 1 : Nat) : Int) - 1 = (l : Int) by omega]
    refine CW.loop (fun k ρ ds L' => ds = [] ∧ (∃ d'', L' = (b, .cells (kvs .u32 d'' ++ rest).toArray 46 (0, 0)) :: L ∧ Srt m d'' ∧ k ≤ l + 1 ∧ heapPop ltInt lo k d'' = heapPop ltInt lo (l + 1) d') ∧ Ev ρ 10 (.int .i64 ((k : Int) - 1)) ∧ Ev ρ 0 (.slice (some ⟨b, 0, none⟩) m cap) ∧ Ev ρ 6 (.int .i64 lo) ∧ Ev ρ 7 (.int .i64 0) ∧ Ev ρ 8 (.int .i64 ((l + 1 : Nat) : Int))) (l + 1)
      ⟨rfl, ⟨d', rfl, hd', Nat.le_refl _, rfl⟩, by rw [show ((l + 1 : Nat) : Int) - 1 = (l : Int) by omega]; infer_instance, inferInstance, inferInstance, inferInstance, inferInstance⟩ ?_
    rintro k ρ ds L' ⟨rfl, ⟨d'', rfl, hd'', hk, hfin2⟩, e10, e0, e6, e7, e8⟩
    cases k with
    | succ k =>
      rw [show ((k + 1 : Nat) : Int) - 1 = (k : Int) by omega] at e10
      have l1 : LtS lo d''.size := ⟨by rw [hd''.size]; omega⟩
      have l2 : LtS (lo + k) d''.size := ⟨by rw [hd''.size]; omega⟩
      have t1 : ToN ((lo : Int) + (k : Int)) (lo + k) := ⟨by omega⟩
      repeat' (first|refine Gj0 fun _=>?_|refine Gj1 ?_|refine CW.drawsSw (id := 10) [0, 1, 2, 3, 4, 5, 6, 7, 8, 9, 10, 12, 13, 14] [11, 15] 16 [17, 18, 19] mixed (by kernel_rfl) ?_|refine Gj2 (fun _=>?_) fun _=>?_|refine Gj3 ?_|refine Gj4 fun _=>?_|fail)
      refine OW.call (siftDownU b cap m 0 k lo (swp d'' lo (lo + k)) rest L (hd''.swp _ _) (by omega) (by omega)) ?_
      rintro _ _ rfl
      repeat' (first|refine Gj0 fun _=>?_|refine Gj1 ?_|refine CW.drawsSw (id := 10) [0, 1, 2, 3, 4, 5, 6, 7, 8, 9, 10, 12, 13, 14] [11, 15] 16 [17, 18, 19] mixed (by kernel_rfl) ?_|refine Gj2 (fun _=>?_) fun _=>?_|refine Gj3 ?_|refine Gj4 fun _=>?_|fail)
      exact ⟨k, by omega, rfl, ⟨_, rfl, siftS (hd''.swp _ _), by omega, hfin2⟩, inferInstance, inferInstance, inferInstance, inferInstance, inferInstance⟩
    | zero =>
      rw [show ((0 : Nat) : Int) - 1 = -1 by omega] at e10
      repeat' (first|refine Gj0 fun _=>?_|refine Gj1 ?_|refine CW.drawsSw (id := 10) [0, 1, 2, 3, 4, 5, 6, 7, 8, 9, 10, 12, 13, 14] [11, 15] 16 [17, 18, 19] mixed (by kernel_rfl) ?_|refine Gj2 (fun _=>?_) fun _=>?_|refine Gj3 ?_|refine Gj4 fun _=>?_|fail)
      refine bodyK.nrm (Res.zero Tryz.results187) ?_
      rw [show heapPop ltInt lo (l + 1) (heapBuild ltInt (l + 1) lo 0 d') = heapPop ltInt lo (l + 1) d' from rfl, ← hfin2]
      rfl
end Go.Proofs.YtmnhooepaemlcaaGreat

namespace Go.Proofs.YtmnhooepaemlcaaGreat
open Go Go.Pw Go.Sort
set_option maxRecDepth 100000
set_option maxHeartbeats 4000000
set_option synthInstance.maxHeartbeats 400000
set_option synthInstance.maxSize 2000
attribute [local irreducible] CW OW RW thenK blockK
attribute [local irreducible] scopeK loopK TRW ATW

theorem order2U (b bs cap m x y s : Nat) (d : Array Int) (rest : List Value) (L : Chunk) (hd : Srt m d) (hx : x < m) (hy : y < m) (hs : s ≤ 1000) [hb : InC L b (.cells (kvs .u32 d ++ rest).toArray 46 (0, 0))] :
    Fn1 Tryz.prog 254 [.slice (some ⟨b, 0, none⟩) m cap, .int .i64 x, .int .i64 y, .pointer (some ⟨bs, 0, none⟩)] ((bs, .cells #[.int .i64 s] 3 (0, 0)) :: L)
      (fun u L' => u = .tuple #[.int .i64 (order2 ltInt d x y s).1, .int .i64 (order2 ltInt d x y s).2.1] ∧ L' = (bs, .cells #[.int .i64 (order2 ltInt d x y s).2.2] 3 (0, 0)) :: L) := by
  intro w0; refine Spec.enter4 Tryz.func254 rfl Tryz.ntmps254 (by decide) ?_
  have hb' := hb
  have hml := hd.len
  have l1 : LtS x d.size := ⟨by rw [hd.size]; omega⟩
  have l2 : LtS y d.size := ⟨by rw [hd.size]; omega⟩
  repeat' (first|refine Gi0 fun _=>?_|refine Gi1 ?_|refine CW.drawsP (id := 1) [0,1,2,3,4,5,6,7,8] mixed (by kernel_rfl) ?_|refine Gi2 (fun _=>?_) fun _=>?_|refine Gi3 ?_|refine Gi4 fun _=>?_|fail)
  refine RW.call (lessU _ _ _) ?_
  rintro _ _ ⟨rfl, rfl⟩
  refine pinAll ?_
  unfold order2
  cases hc : ltInt d[y]! d[x]! with
  | true =>
    rw [if_pos rfl]
    repeat' (first|refine Gi0 fun _=>?_|refine Gi1 ?_|refine CW.drawsP (id := 1) [0,1,2,3,4,5,6,7,8] mixed (by kernel_rfl) ?_|refine Gi2 (fun _=>?_) fun _=>?_|refine Gi3 ?_|refine Gi4 fun _=>?_|fail)
    exact bodyK.ret (Res.two Tryz.results254) ⟨rfl, rfl⟩
  | false =>
    rw [if_neg (by simp)]
    repeat' (first|refine Gi0 fun _=>?_|refine Gi1 ?_|refine CW.drawsP (id := 1) [0,1,2,3,4,5,6,7,8] mixed (by kernel_rfl) ?_|refine Gi2 (fun _=>?_) fun _=>?_|refine Gi3 ?_|refine Gi4 fun _=>?_|fail)
    exact bodyK.ret (Res.two Tryz.results254) ⟨rfl, rfl⟩
theorem order2_lt {d : Array Int} {x y s m : Nat} (hx : x < m) (hy : y < m) : (order2 ltInt d x y s).1 < m ∧ (order2 ltInt d x y s).2.1 < m ∧ (order2 ltInt d x y s).2.2 ≤ s + 1 := by
  unfold order2; split <;> simp <;> omega
theorem medianU (b bs cap m x y z s : Nat) (d : Array Int) (rest : List Value) (L : Chunk) (hd : Srt m d) (hx : x < m) (hy : y < m) (hz : z < m) (hs : s ≤ 900) [hb : InC L b (.cells (kvs .u32 d ++ rest).toArray 46 (0, 0))] :
    Fn1 Tryz.prog 229 [.slice (some ⟨b, 0, none⟩) m cap, .int .i64 x, .int .i64 y, .int .i64 z, .pointer (some ⟨bs, 0, none⟩)] ((bs, .cells #[.int .i64 s] 3 (0, 0)) :: L)
      (fun u L' => u = .int .i64 (median ltInt d x y z s).1 ∧ L' = (bs, .cells #[.int .i64 (median ltInt d x y z s).2] 3 (0, 0)) :: L) := by
  intro w0; refine Spec.enter5 Tryz.func229 rfl Tryz.ntmps229 (by decide) ?_
  have hb' := hb
  rw [show median ltInt d x y z s = (((order2 ltInt d (order2 ltInt d x y s).1 (order2 ltInt d (order2 ltInt d x y s).2.1 z (order2 ltInt d x y s).2.2).1 (order2 ltInt d (order2 ltInt d x y s).2.1 z (order2 ltInt d x y s).2.2).2.2)).2.1, ((order2 ltInt d (order2 ltInt d x y s).1 (order2 ltInt d (order2 ltInt d x y s).2.1 z (order2 ltInt d x y s).2.2).1 (order2 ltInt d (order2 ltInt d x y s).2.1 z (order2 ltInt d x y s).2.2).2.2)).2.2) from rfl]
  have b1 := order2_lt (d := d) (s := s) hx hy
  repeat' (first|refine Ga0 fun _=>?_|refine Ga1 ?_|refine Ga2 (fun _=>?_) fun _=>?_|refine Ga3 ?_|refine Ga4 fun _=>?_|fail)
  refine OW.call (order2U b bs cap m x y s d rest L hd hx hy (by omega)) ?_
  rintro _ _ ⟨rfl, rfl⟩
  generalize order2 ltInt d x y s = r1 at *
  obtain ⟨x1, y1, s1⟩ := r1
  simp only at b1 ⊢
  have b2 := order2_lt (d := d) (s := s1) b1.2.1 hz
  repeat' (first|refine Ga0 fun _=>?_|refine Ga1 ?_|refine Ga2 (fun _=>?_) fun _=>?_|refine Ga3 ?_|refine Ga4 fun _=>?_|fail)
  refine OW.call (order2U b bs cap m y1 z s1 d rest L hd b1.2.1 hz (by omega)) ?_
  rintro _ _ ⟨rfl, rfl⟩
  generalize order2 ltInt d y1 z s1 = r2 at *
  obtain ⟨x2, y2, s2⟩ := r2
  simp only at b2 ⊢
  have b3 := order2_lt (d := d) (s := s2) b1.1 b2.1
  repeat' (first|refine Ga0 fun _=>?_|refine Ga1 ?_|refine Ga2 (fun _=>?_) fun _=>?_|refine Ga3 ?_|refine Ga4 fun _=>?_|fail)
  refine OW.call (order2U b bs cap m x1 x2 s2 d rest L hd b1.1 b2.1 (by omega)) ?_
  rintro _ _ ⟨rfl, rfl⟩
  generalize order2 ltInt d x1 x2 s2 = r3 at *
  obtain ⟨x3, y3, s3⟩ := r3
  simp only at b3 ⊢
  repeat' (first|refine Ga0 fun _=>?_|refine Ga1 ?_|refine Ga2 (fun _=>?_) fun _=>?_|refine Ga3 ?_|refine Ga4 fun _=>?_|fail)
  exact bodyK.ret (Res.one Tryz.results229) ⟨rfl, rfl⟩
theorem medianAdjacentU (b bs cap m x s : Nat) (d : Array Int) (rest : List Value) (L : Chunk) (hd : Srt m d) (hx0 : 1 ≤ x) (hx : x + 1 < m) (hs : s ≤ 900) [hb : InC L b (.cells (kvs .u32 d ++ rest).toArray 46 (0, 0))] :
    Fn1 Tryz.prog 228 [.slice (some ⟨b, 0, none⟩) m cap, .int .i64 x, .pointer (some ⟨bs, 0, none⟩)] ((bs, .cells #[.int .i64 s] 3 (0, 0)) :: L)
      (fun u L' => u = .int .i64 (medianAdjacent ltInt d x s).1 ∧ L' = (bs, .cells #[.int .i64 (medianAdjacent ltInt d x s).2] 3 (0, 0)) :: L) := by
  intro w0; refine Spec.enter3 Tryz.func228 rfl Tryz.ntmps228 (by decide) ?_
  have hb' := hb
  have hml := hd.len
  unfold medianAdjacent
  repeat' (first|refine Ga0 fun _=>?_|refine Ga1 ?_|refine Ga2 (fun _=>?_) fun _=>?_|refine Ga3 ?_|refine Ga4 fun _=>?_|fail)
  rw [show (x : Int) - 1 = ((x - 1 : Nat) : Int) by omega, show (x : Int) + 1 = ((x + 1 : Nat) : Int) by omega]
  refine OW.call (medianU b bs cap m (x - 1) x (x + 1) s d rest L hd (by omega) (by omega) (by omega) hs) ?_
  rintro _ _ ⟨rfl, rfl⟩
  repeat' (first|refine Ga0 fun _=>?_|refine Ga1 ?_|refine Ga2 (fun _=>?_) fun _=>?_|refine Ga3 ?_|refine Ga4 fun _=>?_|fail)
  exact bodyK.ret (Res.one Tryz.results228) ⟨rfl, rfl⟩
def hintI : Hint → Int
  | .unknown => 0
  | .increasing => 1
  | .decreasing => 2
theorem median_lt {d : Array Int} {x y z s m : Nat} (hx : x < m) (hy : y < m) (hz : z < m) : (median ltInt d x y z s).1 < m ∧ (median ltInt d x y z s).2 ≤ s + 3 :=
  ⟨by rcases median_mem ltInt d x y z s with h | h | h <;> rw [h] <;> assumption, median_count ..⟩
def pickH (r : Nat × Nat) : Nat × Hint := (r.1, if r.2 = 0 then Hint.increasing else if r.2 = 12 then .decreasing else .unknown)
theorem choosePivotU (b cap m lo hi : Nat) (d : Array Int) (rest : List Value) (L : Chunk) (hd : Srt m d) (hlh : lo < hi) (hhm : hi ≤ m) [hb : InC L b (.cells (kvs .u32 d ++ rest).toArray 46 (0, 0))] :
    Fn1 Tryz.prog 189 [.slice (some ⟨b, 0, none⟩) m cap, .int .i64 lo, .int .i64 hi] L
      (fun u L' => u = .tuple #[.int .i64 (choosePivot ltInt d lo hi).1, .int .i64 (hintI (choosePivot ltInt d lo hi).2)] ∧ L' = L) := by
  intro w0; refine Spec.enter3 Tryz.func189 rfl Tryz.ntmps189 (by decide) ?_
  have hb' := hb
  have hml := hd.len
  obtain ⟨l, rfl⟩ : ∃ l, hi = lo + l := ⟨hi - lo, by omega⟩
  have hcp : choosePivot ltInt d lo (lo + l) = pickH
      (if l ≥ 8 then
        if l ≥ 50 then
          let ri := medianAdjacent ltInt d (lo + l / 4 * 1) 0
          let rj := medianAdjacent ltInt d (lo + l / 4 * 2) ri.2
          let rk := medianAdjacent ltInt d (lo + l / 4 * 3) rj.2
          median ltInt d ri.1 rj.1 rk.1 rk.2
        else median ltInt d (lo + l / 4 * 1) (lo + l / 4 * 2) (lo + l / 4 * 3) 0
      else (lo + l / 4 * 2, 0)) := by
    unfold choosePivot
    rw [show lo + l - lo = l by omega]
    rfl
  have ha : (lo : Int) + (l : Int) = (lo : Int) + l := rfl
  have hll : ((lo + l : Nat) : Int) - (lo : Int) = (l : Int) := by omega
  by_cases h8 : l ≥ 8
  · rw [if_pos h8] at hcp
    by_cases h50 : l ≥ 50
    · rw [if_pos h50] at hcp
      have m1 := medianAdjacent_mem ltInt d (lo + l / 4 * 1) 0
      have c1 := medianAdjacent_count (lt := ltInt) d (lo + l / 4 * 1) 0
      obtain ⟨⟨i1, s1⟩, e1⟩ : ∃ r, medianAdjacent ltInt d (lo + l / 4 * 1) 0 = r := ⟨_, rfl⟩
      rw [e1] at m1 c1 hcp
      simp only at m1 c1 hcp
      have m2 := medianAdjacent_mem ltInt d (lo + l / 4 * 2) s1
      have c2 := medianAdjacent_count (lt := ltInt) d (lo + l / 4 * 2) s1
      obtain ⟨⟨i2, s2⟩, e2⟩ : ∃ r, medianAdjacent ltInt d (lo + l / 4 * 2) s1 = r := ⟨_, rfl⟩
      rw [e2] at m2 c2 hcp
      simp only at m2 c2 hcp
      have m3 := medianAdjacent_mem ltInt d (lo + l / 4 * 3) s2
      have c3 := medianAdjacent_count (lt := ltInt) d (lo + l / 4 * 3) s2
      obtain ⟨⟨i3, s3⟩, e3⟩ : ∃ r, medianAdjacent ltInt d (lo + l / 4 * 3) s2 = r := ⟨_, rfl⟩
      rw [e3] at m3 c3 hcp
      simp only at m3 c3 hcp
      have hr := median_lt (d := d) (m := m) (x := i1) (y := i2) (z := i3) (s := s3) (by omega) (by omega) (by omega)
      obtain ⟨⟨r1, r2⟩, er⟩ : ∃ r, median ltInt d i1 i2 i3 s3 = r := ⟨_, rfl⟩
      rw [er] at hr hcp
      simp only at hr hcp
      repeat' (first|refine Gb0 fun _=>?_|refine Gb1 ?_|refine Gb2 (fun _=>?_) fun _=>?_|refine Gb3 ?_|refine Gb4 fun _=>?_|fail)
      rename_i bw
      rw [hll]
      rw [show (lo : Int) + (l : Int) / 4 * 1 = ((lo + l / 4 * 1 : Nat) : Int) by omega, show (lo : Int) + (l : Int) / 4 * 2 = ((lo + l / 4 * 2 : Nat) : Int) by omega, show (lo : Int) + (l : Int) / 4 * 3 = ((lo + l / 4 * 3 : Nat) : Int) by omega]
      have k1 := medianAdjacentU b bw cap m (lo + l / 4 * 1) 0 d rest L hd (by omega) (by omega) (by omega)
      rw [e1] at k1
      refine OW.call k1 ?_
      rintro _ _ ⟨rfl, rfl⟩
      repeat' (first|refine Gb0 fun _=>?_|refine Gb1 ?_|refine Gb2 (fun _=>?_) fun _=>?_|refine Gb3 ?_|refine Gb4 fun _=>?_|fail)
      have k2 := medianAdjacentU b bw cap m (lo + l / 4 * 2) s1 d rest L hd (by omega) (by omega) (by omega)
      rw [e2] at k2
      refine OW.call k2 ?_
      rintro _ _ ⟨rfl, rfl⟩
      repeat' (first|refine Gb0 fun _=>?_|refine Gb1 ?_|refine Gb2 (fun _=>?_) fun _=>?_|refine Gb3 ?_|refine Gb4 fun _=>?_|fail)
      have k3 := medianAdjacentU b bw cap m (lo + l / 4 * 3) s2 d rest L hd (by omega) (by omega) (by omega)
      rw [e3] at k3
      refine OW.call k3 ?_
      rintro _ _ ⟨rfl, rfl⟩
      repeat' (first|refine Gb0 fun _=>?_|refine Gb1 ?_|refine Gb2 (fun _=>?_) fun _=>?_|refine Gb3 ?_|refine Gb4 fun _=>?_|fail)
      have k4 := medianU b bw cap m i1 i2 i3 s3 d rest L hd (by omega) (by omega) (by omega) (by omega)
      rw [er] at k4
      refine OW.call k4 ?_
      rintro _ _ ⟨rfl, rfl⟩
      rw [hcp]; unfold pickH; simp only
      by_cases h0 : r2 = 0
      · rw [if_pos h0]
        repeat' (first|refine Gb0 fun _=>?_|refine Gb1 ?_|refine Gb2 (fun _=>?_) fun _=>?_|refine Gb3 ?_|refine Gb4 fun _=>?_|fail)
        exact bodyK.retD L (Res.two Tryz.results189) ⟨rfl, rfl⟩
      · rw [if_neg h0]
        by_cases h12 : r2 = 12
        · rw [if_pos h12]
          repeat' (first|refine Gb0 fun _=>?_|refine Gb1 ?_|refine Gb2 (fun _=>?_) fun _=>?_|refine Gb3 ?_|refine Gb4 fun _=>?_|fail)
          exact bodyK.retD L (Res.two Tryz.results189) ⟨rfl, rfl⟩
        · rw [if_neg h12]
          repeat' (first|refine Gb0 fun _=>?_|refine Gb1 ?_|refine Gb2 (fun _=>?_) fun _=>?_|refine Gb3 ?_|refine Gb4 fun _=>?_|fail)
          exact bodyK.retD L (Res.two Tryz.results189) ⟨rfl, rfl⟩
    · rw [if_neg h50] at hcp
      have hr := median_lt (d := d) (m := m) (x := lo + l / 4 * 1) (y := lo + l / 4 * 2) (z := lo + l / 4 * 3) (s := 0) (by omega) (by omega) (by omega)
      obtain ⟨⟨r1, r2⟩, er⟩ : ∃ r, median ltInt d (lo + l / 4 * 1) (lo + l / 4 * 2) (lo + l / 4 * 3) 0 = r := ⟨_, rfl⟩
      rw [er] at hr hcp
      simp only at hr hcp
      repeat' (first|refine Gb0 fun _=>?_|refine Gb1 ?_|refine Gb2 (fun _=>?_) fun _=>?_|refine Gb3 ?_|refine Gb4 fun _=>?_|fail)
      rename_i bw
      rw [hll]
      rw [show (lo : Int) + (l : Int) / 4 * 1 = ((lo + l / 4 * 1 : Nat) : Int) by omega, show (lo : Int) + (l : Int) / 4 * 2 = ((lo + l / 4 * 2 : Nat) : Int) by omega, show (lo : Int) + (l : Int) / 4 * 3 = ((lo + l / 4 * 3 : Nat) : Int) by omega]
      have k4 := medianU b bw cap m (lo + l / 4 * 1) (lo + l / 4 * 2) (lo + l / 4 * 3) 0 d rest L hd (by omega) (by omega) (by omega) (by omega)
      rw [er] at k4
      refine OW.call k4 ?_
      rintro _ _ ⟨rfl, rfl⟩
      rw [hcp]; unfold pickH; simp only
      by_cases h0 : r2 = 0
      · rw [if_pos h0]
        repeat' (first|refine Gb0 fun _=>?_|refine Gb1 ?_|refine Gb2 (fun _=>?_) fun _=>?_|refine Gb3 ?_|refine Gb4 fun _=>?_|fail)
        exact bodyK.retD L (Res.two Tryz.results189) ⟨rfl, rfl⟩
      · rw [if_neg h0]
        by_cases h12 : r2 = 12
        · exact absurd hr.2 (by omega)
        · rw [if_neg h12]
          repeat' (first|refine Gb0 fun _=>?_|refine Gb1 ?_|refine Gb2 (fun _=>?_) fun _=>?_|refine Gb3 ?_|refine Gb4 fun _=>?_|fail)
          exact bodyK.retD L (Res.two Tryz.results189) ⟨rfl, rfl⟩
  · rw [if_neg h8] at hcp
    rw [hcp]; unfold pickH; simp only
    repeat' (first|refine Gb0 fun _=>?_|refine Gb1 ?_|refine Gb2 (fun _=>?_) fun _=>?_|refine Gb3 ?_|refine Gb4 fun _=>?_|fail)
    rw [hll]
    rw [show (lo : Int) + (l : Int) / 4 * 1 = ((lo + l / 4 * 1 : Nat) : Int) by omega, show (lo : Int) + (l : Int) / 4 * 2 = ((lo + l / 4 * 2 : Nat) : Int) by omega, show (lo : Int) + (l : Int) / 4 * 3 = ((lo + l / 4 * 3 : Nat) : Int) by omega]
    exact bodyK.retD L (Res.two Tryz.results189) ⟨rfl, rfl⟩
end Go.Proofs.YtmnhooepaemlcaaGreat
