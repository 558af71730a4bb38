/- OrderCalls: true for every input; arguments as before. Part 6. Conditions: none. -/
import Derived.Test.YtmnhooepaemlcaaGreatOC2
import Derived.Test.YtmnhooepaemlcaaGreatOC3
import Derived.Test.YtmnhooepaemlcaaGreatOC5
set_option linter.all false
namespace Go.Proofs.YtmnhooepaemlcaaGreat
open Go Go.Pw Go.Pw.Sc Go.Pw.Md
set_option maxRecDepth 100000
set_option maxHeartbeats 4000000
set_option synthInstance.maxHeartbeats 400000
set_option synthInstance.maxSize 2000
attribute [local irreducible] CW OW RW thenK blockK
attribute [local irreducible] scopeK loopK TRW ATW
theorem HandR.mem {bm : Nat} {m : Mod} {D L : Chunk} {x : NeedM} {size mult less : Int} {o : OutM} {bs : List Int} {u : Value} {L' : Chunk} (h : HandR bm m D L x size mult less o bs u L') : ∀ p ∈ L, p ∈ L' := by
 rcases h with ⟨_, rfl, _⟩ | ⟨_, _, bn, b, N, es, c, zs, _, rfl, _⟩
 ·exact fun p h => h
 ·exact fun p h => by simp [h]
theorem Zs.del {L : Chunk} {es : List MapEntry} {zs : List (MapEntry × Pc)} (h : Zs L es zs) (a : Int) : Zs L (delE a es) (zs.filter fun z => decide (z.2.ad ≠ a)) :=
 ⟨by
  rw [h.es]
  unfold delE
  rw [List.filter_map]
  congr 1
  refine List.filter_congr fun z hz => ?_
  simp only [Function.comp_apply, (h.at_ z hz).1, kI], fun z hz => h.at_ z (List.mem_filter.1 hz).1⟩
theorem MRest.del {L : Chunk} {bp c a : Nat} {k : Int} {m : Mod} {es : List MapEntry} {zs : List (MapEntry × Pc)} (hin : InC L bp (.map (delE k es).toArray c)) (hk : KV .u32 es c) (hz : Zs L es zs) (hp : (zs.map (·.2)).Perm m.L) : MRest L bp (m.without k) :=
 ⟨_, c, _, hin, hk.del, Zs.del hz k, by
  have : ((zs.filter fun z => decide (z.2.ad ≠ k)).map (·.2)) = (zs.map (·.2)).filter fun p => decide (p.ad ≠ k) := by rw [List.filter_map]; rfl
  rw [this]
  exact hp.filter _⟩
theorem free1 (b bx c : Nat) (es : List MapEntry) (x : OpM) (vx : Value) (L : Chunk) [hx : InC L bx (.cells #[.int .i64 x.kind, .int .u32 x.ad, .int .u64 x.size, .int .u64 x.mult, .int .u64 x.many, vx] 50 (0, 0))] (hk : KV .u32 es c) :
  Fn1 Tryz.prog 182 [.map (some b), .pointer (some ⟨bx, 0, none⟩)] ((b, .map es.toArray c) :: L) (fun _ L' => L' = (b, .map (delE x.ad es).toArray c) :: L) := by
 intro w0; refine Spec.enter2 Tryz.func182 rfl Tryz.ntmps182 (by decide) ?_
 have hx' := hx
 repeat' (first|refine Ga0 fun _=>?_|refine Ga1 ?_|refine Ga2 (fun _=>?_) fun _=>?_|refine Ga3 ?_|fail)
 refine OW.mapDel (m := b) (k := .u32) (j := x.ad) (c := c) (es := es) hk ?_
 repeat' (first|refine Ga0 fun _=>?_|refine Ga1 ?_|refine Ga2 (fun _=>?_) fun _=>?_|refine Ga3 ?_|fail)
 exact bodyK.nrm (Res.zero Tryz.results182) rfl
theorem rowDel {D L : Chunk} {bn b c : Nat} {m : Mod} {a : Int} {o : OutM} {es : List MapEntry} {zs : List (MapEntry × Pc)} (hk : KV .u32 es c) (hz : Zs D es zs) (hp : (zs.map (·.2)).Perm m.L) :
  RowR D L (if bareO o [0] then (m.without a, true) else (m, false)) (.tuple #[.pointer (some ⟨bn, 0, none⟩), .bool (decide (bareO o [0]))]) ((bn, .cells (mcells m b).toArray 142 (0, 0)) :: (b, .map (delE a es).toArray c) :: L) := by
 refine ⟨[(bn, .cells (mcells m b).toArray 142 (0, 0)), (b, .map (delE a es).toArray c)], bn, b, ?_, rfl, ?_⟩
 ·by_cases h : bareO o [0] <;> simp [h]
 ·by_cases h : bareO o [0]
  ·rw [if_pos h]
   intro _
   refine ⟨⟨by simp [mcells, Mod.without]⟩, ?_⟩
   have hz' : Zs ([(bn, .cells (mcells m b).toArray 142 (0, 0)), (b, .map (delE a es).toArray c)] ++ D) es zs := hz.to
   exact MRest.del (a := 0) ⟨by simp⟩ hk hz' hp
  ·rw [if_neg h]
   intro h; cases h
theorem modelFilledI (x n : Int) (h0 : 0 ≤ n) (hn : n ≤ 1000000) (L : Chunk) : Fn1 Tryz.prog 181 [.int .i64 n, .int .i64 x] L (fun u L' => ∃ b, u = .slice (some ⟨b, 0, none⟩) n.toNat n.toNat ∧ L' = (b, .cells (List.replicate n.toNat (.int .i64 x)).toArray 3 (0, 0)) :: L) := by
 have := modelFilled x n.toNat (by omega) L
 rwa [Int.toNat_of_nonneg h0] at this
theorem modelCalloc (bm bp : Nat) (m : Mod) (hwf : WF m) (x : OpM) (hxr : OpR x) (hk : x.kind = 2) (o : OutM) (vx vb : Value) (sx : Sng vx) (D L : Chunk) [hm : InC L bm (.cells (mcells m bp).toArray 142 (0, 0))] [hD : MemC D L] (hr : MRest D bp m)
  (hb : BS L vb o.bytes) (hor : OutR o) : Fn1 Tryz.prog 148 [.pointer (some ⟨bm, 0, none⟩), opV x vx, outV o vb] L (RowR D L (Md.step m x o)) := by
 intro w0; refine Spec.enter3 Tryz.func148 rfl Tryz.ntmps148 (by decide) ?_
 have z5:DrP 5 [0,1,2,3,4,7,5,6,8,9,10,11,12]:=⟨⟨⟩⟩
 have hm' := hm
 have svb := hb.sng
 have ho1 := hxr.many
 have ho2 := hxr.size
 have h0 : 0 ≤ x.many * x.size := Int.mul_nonneg ho1.1 ho2.1
 repeat' (first|refine Gi0 fun _=>?_|refine Gi1 ?_|refine Gi2 (fun _=>?_) fun _=>?_|refine Gi3 ?_|refine Gi4 fun _=>?_|fail)
 refine OW.call (sizeTotal x.many x.size ⟨ho1.1, by have := ho1.2; omega⟩ ⟨ho2.1, by have := ho2.2; omega⟩ _) ?_
 rintro _ _ ⟨rfl, rfl⟩
 cases ht : total x.many x.size with
 | none =>
  have est : Md.step m x o = (m, decide (bareO o [2])) := by unfold Md.step; rw [if_neg (by omega), if_pos hk, ht]
  repeat' (first|refine Gi0 fun _=>?_|refine Gi1 ?_|refine Gi2 (fun _=>?_) fun _=>?_|refine Gi3 ?_|refine Gi4 fun _=>?_|fail)
  refine OW.call (modelBare o vb _ [2] _ hb.to (Rd.blk (l := iv [2]) rfl (Nat.le_refl _)) (by decide)) ?_
  rintro _ _ ⟨rfl, rfl⟩
  generalize hbb : decide (bareO o [2]) = bb at est ⊢
  repeat' (first|refine Gi0 fun _=>?_|refine Gi1 ?_|refine Gi2 (fun _=>?_) fun _=>?_|refine Gi3 ?_|refine Gi4 fun _=>?_|fail)
  refine bodyK.retD L (Res.two Tryz.results148) ?_
  rw [est]
  exact RowR.same (r := (m, bb)) hm hr fun _ => rfl
 | some t =>
  have ht2 : t = x.many * x.size ∧ t ≤ 262144 := by
   unfold total at ht
   split at ht
   ·cases ht
   ·cases ht; exact ⟨rfl, by omega⟩
  obtain ⟨nd, hn⟩ := needOf_one ht2.2
  obtain ⟨c1, c2, c3⟩ := needOf_charge hn
  have est : Md.step m x o = handed m nd t 1 0 o (List.replicate nd.charge.toNat 0) := by unfold Md.step; rw [if_neg (by omega), if_pos hk, ht]; simp only [hn]
  have ht0 : 0 ≤ t := by omega
  repeat' (first|refine Gi0 fun _=>?_|refine Gi1 ?_|refine Gi2 (fun _=>?_) fun _=>?_|refine Gi3 ?_|refine Gi4 fun _=>?_|fail)
  refine OW.call (sizeOf t 1 ht0 (by decide) _) ?_
  rintro _ _ ⟨rfl, rfl⟩
  rw [hn]
  repeat' (first|refine Gi0 fun _=>?_|refine Gi1 ?_|refine Gi2 (fun _=>?_) fun _=>?_|refine Gi3 ?_|refine Gi4 fun _=>?_|fail)
  refine RW.call (modelFilledI 0 nd.charge (by omega) (by omega) _) ?_
  rintro _ _ ⟨bf, rfl, rfl⟩
  refine pinAll ?_
  repeat' (first|refine Gi0 fun _=>?_|refine Gi1 ?_|refine Gi2 (fun _=>?_) fun _=>?_|refine Gi3 ?_|refine Gi4 fun _=>?_|fail)
  refine RW.call (modelHand bm bp m hwf nd t 1 0 o vb (.slice (some ⟨bf, 0, none⟩) nd.charge.toNat nd.charge.toNat) (List.replicate nd.charge.toNat 0) D _ hr hb.to hor (by
   rw [show (List.replicate nd.charge.toNat (0 : Int)).length = nd.charge.toNat by simp, show iv (List.replicate nd.charge.toNat 0) = List.replicate nd.charge.toNat (Value.int .i64 0) by simp [iv]]
   exact Rd.blk (by simp) (Nat.le_refl _)) ⟨c2, c3⟩ (by simp only [List.length_replicate]; omega) ⟨ht0, ht2.2⟩ (by decide) (by decide)) ?_
  intro u L' hh
  obtain ⟨L2, hsub, hrow⟩ := hh.row hm hr (subC_of (L := L))
  have hmem := HandR.mem hh
  clear hh
  rw [est]
  generalize handed m nd t 1 0 o (List.replicate nd.charge.toNat 0) = r at hrow
  have hrow' := hrow
  obtain ⟨N, bn, b2, rfl, rfl, _⟩ := hrow'
  have hsc : SubC (N ++ L) L' := ⟨hsub⟩
  refine ⟨_, fun p h => h, hmem, ?_⟩
  repeat' (first|refine Gi0 fun _=>?_|refine Gi1 ?_|refine Gi2 (fun _=>?_) fun _=>?_|refine Gi3 ?_|refine Gi4 fun _=>?_|fail)
  exact bodyK.retD (N ++ L) (Res.two Tryz.results148) hrow
theorem modelFree (bm bp : Nat) (m : Mod) (hwf : WF m) (x : OpM) (hxr : OpR x) (hk : x.kind = 3) (o : OutM) (vx vb : Value) (sx : Sng vx) (D L : Chunk) [hm : InC L bm (.cells (mcells m bp).toArray 142 (0, 0))] [hD : MemC D L] (hr : MRest D bp m)
  (hb : BS L vb o.bytes) (hor : OutR o) : Fn1 Tryz.prog 149 [.pointer (some ⟨bm, 0, none⟩), opV x vx, outV o vb] L (RowR D L (Md.step m x o)) := by
 intro w0; refine Spec.enter3 Tryz.func149 rfl Tryz.ntmps149 (by decide) ?_
 have z1:DrP 1 [0,1,2,3,4,5,6,7,8,9,10,11,12]:=⟨⟨⟩⟩; have z4:DrT 4 (.fork [0, 1, 3] 2 4 (.leaf [4, 5, 6, 7]) (.leaf [2, 5, 6, 7])):=⟨⟨⟩⟩
 have hm' := hm
 have svb := hb.sng
 have hr0 := hr
 obtain ⟨es, c, zs, h1, hkv, hz, hp⟩ := hr0
 have h1' : InC L bp (.map es.toArray c) := ⟨hD.out _ h1.out⟩
 repeat' (first|refine Gi0 fun _=>?_|refine Gi1 ?_|refine TRW.fork ?_|refine TRW.leaf ?_|refine TRW.both ?_ ?_|refine Gi2 (fun _=>?_) fun _=>?_|refine Gi3 ?_|refine Gi4 fun _=>?_|fail)
 refine RW.lookOk (m := bp) (c := c) (es := es) hkv.keys (fun v hf => ?_) (fun hf => ?_)
 ·obtain ⟨z, hz', hza, hzv⟩ := hz.find hkv hf
  obtain ⟨_, vz, hzv2, hrd⟩ := hz.at_ z hz'
  have svz := hrd.sng
  rw [← hzv, hzv2]
  have hfm : m.find x.ad = some z.2 := by rw [← hza]; exact perm_find hwf hp (List.mem_map.2 ⟨z, hz', rfl⟩)
  have est : Md.step m x o = if bareO o [0] then (m.without x.ad, true) else (m, false) := by unfold Md.step; rw [if_neg (by omega), if_neg (by omega), if_pos hk, hfm]
  repeat' (first|refine Gi0 fun _=>?_|refine Gi1 ?_|refine TRW.fork ?_|refine TRW.leaf ?_|refine TRW.both ?_ ?_|refine Gi2 (fun _=>?_) fun _=>?_|refine Gi3 ?_|refine Gi4 fun _=>?_|fail)
  ·rename_i b4 b5 lft b8
   refine RW.call (modelWith bm bp c m es _ _ (fun es' c' N => es' = delE x.ad es ∧ c' = c ∧ N = []) (fun b => ?_)) ?_
   ·exact FnP.vp (first := #[]) (cap := #[.pointer (some ⟨b4, 0, none⟩)]) ((free1 b b4 c es x vx _ hkv).mono (fun _ L' e => ⟨[], _, _, e, rfl, rfl, rfl⟩) (fun _ _ h => h))
   rintro _ _ ⟨bn, b, N, es', c', rfl, rfl, e1, e2, e3⟩
   subst e1 e3
   obtain rfl := e2.symm
   refine pinAll ?_
   repeat' (first|refine Gi0 fun _=>?_|refine Gi1 ?_|refine TRW.fork ?_|refine TRW.leaf ?_|refine TRW.both ?_ ?_|refine Gi2 (fun _=>?_) fun _=>?_|refine Gi3 ?_|refine Gi4 fun _=>?_|fail)
   refine RW.call (modelBare o vb _ [0] _ hb.to (Rd.blk (l := iv [0]) rfl (Nat.le_refl _)) (by decide)) ?_
   rintro _ _ ⟨rfl, rfl⟩
   refine pinAll ?_
   have hrow := rowDel (D := D) (L := L) (bn := bn) (b := b) (a := x.ad) (o := o) hkv hz hp
   rw [← est] at hrow
   generalize decide (bareO o [0]) = bb at hrow ⊢
   repeat' (first|refine Gi0 fun _=>?_|refine Gi1 ?_|refine TRW.fork ?_|refine TRW.leaf ?_|refine TRW.both ?_ ?_|refine Gi2 (fun _=>?_) fun _=>?_|refine Gi3 ?_|refine Gi4 fun _=>?_|fail)
   exact bodyK.retD ((bn, .cells (mcells m b).toArray 142 (0, 0)) :: (b, .map (delE x.ad es).toArray c) :: L) (Res.two Tryz.results149) hrow
  ·rename_i b4 b5 lft b8 bsl
   refine RW.call (modelWith bm bp c m es _ _ (fun es' c' N => es' = delE x.ad es ∧ c' = c ∧ N = []) (fun b => ?_)) ?_
   ·exact FnP.vp (first := #[]) (cap := #[.pointer (some ⟨b4, 0, none⟩)]) ((free1 b b4 c es x vx _ hkv).mono (fun _ L' e => ⟨[], _, _, e, rfl, rfl, rfl⟩) (fun _ _ h => h))
   rintro _ _ ⟨bn, b, N, es', c', rfl, rfl, e1, e2, e3⟩
   subst e1 e3
   obtain rfl := e2.symm
   refine pinAll ?_
   repeat' (first|refine Gi0 fun _=>?_|refine Gi1 ?_|refine TRW.fork ?_|refine TRW.leaf ?_|refine TRW.both ?_ ?_|refine Gi2 (fun _=>?_) fun _=>?_|refine Gi3 ?_|refine Gi4 fun _=>?_|fail)
   refine RW.call (modelBare o vb _ [0] _ hb.to (Rd.blk (l := iv [0]) rfl (Nat.le_refl _)) (by decide)) ?_
   rintro _ _ ⟨rfl, rfl⟩
   refine pinAll ?_
   have hrow := rowDel (D := D) (L := L) (bn := bn) (b := b) (a := x.ad) (o := o) hkv hz hp
   rw [← est] at hrow
   generalize decide (bareO o [0]) = bb at hrow ⊢
   repeat' (first|refine Gi0 fun _=>?_|refine Gi1 ?_|refine TRW.fork ?_|refine TRW.leaf ?_|refine TRW.both ?_ ?_|refine Gi2 (fun _=>?_) fun _=>?_|refine Gi3 ?_|refine Gi4 fun _=>?_|fail)
   exact bodyK.retD ((bn, .cells (mcells m b).toArray 142 (0, 0)) :: (b, .map (delE x.ad es).toArray c) :: L) (Res.two Tryz.results149) hrow
 ·have hfm : m.find x.ad = none := perm_find_none hp fun p hp' => by
   obtain ⟨z, hz', rfl⟩ := List.mem_map.1 hp'
   exact hz.find_none hkv hf z hz'
  have est : Md.step m x o = (m, decide (bareO o [320])) := by unfold Md.step; rw [if_neg (by omega), if_neg (by omega), if_pos hk, hfm]
  repeat' (first|refine Gi0 fun _=>?_|refine Gi1 ?_|refine TRW.fork ?_|refine TRW.leaf ?_|refine TRW.both ?_ ?_|refine Gi2 (fun _=>?_) fun _=>?_|refine Gi3 ?_|refine Gi4 fun _=>?_|fail)
  refine OW.call (modelBare o vb _ [320] _ hb.to (Rd.blk (l := iv [320]) rfl (Nat.le_refl _)) (by decide)) ?_
  rintro _ _ ⟨rfl, rfl⟩
  generalize hbb : decide (bareO o [320]) = bb at est ⊢
  repeat' (first|refine Gi0 fun _=>?_|refine Gi1 ?_|refine TRW.fork ?_|refine TRW.leaf ?_|refine TRW.both ?_ ?_|refine Gi2 (fun _=>?_) fun _=>?_|refine Gi3 ?_|refine Gi4 fun _=>?_|fail)
  refine bodyK.retD L (Res.two Tryz.results149) ?_
  rw [est]
  exact RowR.same (r := (m, bb)) hm hr fun _ => rfl
theorem modelIn (bm bp : Nat) (m : Mod) (hwf : WF m) (a : Int) (D L : Chunk) [hm : InC L bm (.cells (mcells m bp).toArray 142 (0, 0))] [hD : MemC D L] (hr : MRest D bp m) :
  Fn1 Tryz.prog 62 [.pointer (some ⟨bm, 0, none⟩), .int .i64 a] L (fun u L' => (match m.inn a with | some p => ∃ v, u = .tuple #[pcV p v, .bool true] ∧ Rd D 1 v p.b.length (iv p.b) | none => u = .tuple #[zeroPc, .bool false]) ∧ L = L') := by
 intro w0; refine Spec.enter2 Tryz.func62 rfl Tryz.ntmps62 (by decide) ?_
 have hm' := hm
 obtain ⟨es, c, zs, h1, hk, hz, hp⟩ := hr
 have h1' : InC L bp (.map es.toArray c) := ⟨hD.out _ h1.out⟩
 repeat' (first|refine Ga0 fun _=>?_|refine Ga1 ?_|refine Ga2 (fun _=>?_) fun _=>?_|refine Ga3 ?_|refine Ga4 fun _=>?_|fail)
 rename_i b3 b4
 refine OW.call (mapsValues bp _) ?_
 rintro _ _ ⟨bx, rfl, rfl⟩
 repeat' (first|refine Ga0 fun _=>?_|refine Ga1 ?_|refine Ga2 (fun _=>?_) fun _=>?_|refine Ga3 ?_|refine Ga4 fun _=>?_|fail)
 refine OW.call (modelFound bx bp c es zs (fun p => decide (p.ad ≤ a ∧ a < p.ad + p.room)) _ _ hk hz.to (fun z hz' v hzv sv L' hm => ?_)) ?_
 ·exact FnP.vp (first := #[]) (cap := #[.pointer (some ⟨b3, 0, none⟩)]) (@in1 z.2 v sv (hwf.ok z.2 (hp.mem_iff.1 (List.mem_map.2 ⟨z, hz', rfl⟩))) a b3 L' ⟨hm.out _ (by simp)⟩)
 ·rintro _ _ ⟨hres, rfl⟩
  rcases hres with ⟨z, hz', hq, rfl⟩ | ⟨hq, rfl⟩
  ·obtain ⟨_, v, hzv, hrd⟩ := hz.at_ z hz'
   have sv := hrd.sng
   rw [hzv]
   have hin : m.inn a = some z.2 := inn_of hwf (hp.mem_iff.1 (List.mem_map.2 ⟨z, hz', rfl⟩)) (of_decide_eq_true hq)
   repeat' (first|refine Ga0 fun _=>?_|refine Ga1 ?_|refine Ga2 (fun _=>?_) fun _=>?_|refine Ga3 ?_|refine Ga4 fun _=>?_|fail)
   exact bodyK.retD L (Res.of2 Tryz.results62) ⟨by rw [hin]; exact ⟨v, rfl, hrd⟩, rfl⟩
  ·have hin : m.inn a = none := List.find?_eq_none.2 fun p hp' => by
    obtain ⟨z, hz', rfl⟩ := List.mem_map.1 (hp.mem_iff.2 hp')
    have := of_decide_eq_false (hq z hz')
    simpa using this
   repeat' (first|refine Ga0 fun _=>?_|refine Ga1 ?_|refine Ga2 (fun _=>?_) fun _=>?_|refine Ga3 ?_|refine Ga4 fun _=>?_|fail)
   exact bodyK.retD L (Res.of2 Tryz.results62) ⟨by rw [hin], rfl⟩
theorem modelReach (bm bp : Nat) (m : Mod) (hwf : WF m) (a many : Int) (ha : 0 ≤ a ∧ a ≤ 4294967295) (hmany : 0 ≤ many ∧ many ≤ 18446744073709551615) (D L : Chunk) [hm : InC L bm (.cells (mcells m bp).toArray 142 (0, 0))] [hD : MemC D L] (hr : MRest D bp m) :
  Fn1 Tryz.prog 223 [.pointer (some ⟨bm, 0, none⟩), .int .u32 a, .int .u64 many] L (fun u L' => ∃ v N, u = .tuple #[.int .i64 (reach m a many).1, v] ∧ L' = N ++ L ∧ Rd N 1 v (reach m a many).2.length (iv (reach m a many).2)) := by
 intro w0; refine Spec.enter3 Tryz.func223 rfl Tryz.ntmps223 (by decide) ?_
 have hm' := hm
 obtain ⟨a1, a2⟩ := ha
 obtain ⟨m1, m2⟩ := hmany
 have nilr : Rd ([] : Chunk) 1 (.slice none 0 0) 0 (iv []) := ⟨rfl, .inl ⟨⟨_, _, rfl⟩, rfl⟩⟩
 by_cases c1 : many < 1 ∨ 16777216 < many
 ·have e : reach m a many = (2, []) := by unfold reach; rw [if_pos c1]
  rw [e]
  by_cases c2 : many < 1
  ·repeat' (first|refine Ga0 fun _=>?_|refine Ga1 ?_|refine Ga2 (fun _=>?_) fun _=>?_|refine Ga3 ?_|refine Ga4 fun _=>?_|fail)
   exact bodyK.ret (Res.two Tryz.results223) ⟨_, [], rfl, rfl, nilr⟩
  ·repeat' (first|refine Ga0 fun _=>?_|refine Ga1 ?_|refine Ga2 (fun _=>?_) fun _=>?_|refine Ga3 ?_|refine Ga4 fun _=>?_|fail)
   exact bodyK.ret (Res.two Tryz.results223) ⟨_, [], rfl, rfl, nilr⟩
 ·by_cases c2 : 16777216 - many < a
  ·have e : reach m a many = (4, []) := by unfold reach; rw [if_neg c1, if_pos c2]
   rw [e]
   repeat' (first|refine Ga0 fun _=>?_|refine Ga1 ?_|refine Ga2 (fun _=>?_) fun _=>?_|refine Ga3 ?_|refine Ga4 fun _=>?_|fail)
   exact bodyK.ret (Res.two Tryz.results223) ⟨_, [], rfl, rfl, nilr⟩
  ·have e : reach m a many = match m.inn a with | some p => if a + many ≤ p.ad + p.room then (0, []) else (0, [190]) | none => (0, [190]) := by unfold reach; rw [if_neg c1, if_neg c2]; rfl
   repeat' (first|refine Ga0 fun _=>?_|refine Ga1 ?_|refine Ga2 (fun _=>?_) fun _=>?_|refine Ga3 ?_|refine Ga4 fun _=>?_|fail)
   refine OW.call (modelIn bm bp m hwf a D _ hr) ?_
   rintro u _ ⟨hu, rfl⟩
   cases hi : m.inn a with
   | none =>
    rw [hi] at hu e
    subst hu
    have e : reach m a many = (0, [190]) := e
    rw [e]
    repeat' (first|refine Ga0 fun _=>?_|refine Ga1 ?_|refine Ga2 (fun _=>?_) fun _=>?_|refine Ga3 ?_|refine Ga4 fun _=>?_|fail)
    rename_i be
    exact bodyK.retD ((be, .cells #[.int .i64 190] 28 (0, 0)) :: L) (Res.two Tryz.results223) ⟨_, [(be, .cells #[.int .i64 190] 28 (0, 0))], rfl, rfl, Rd.blk (l := [.int .i64 190]) rfl (Nat.le_refl _)⟩
   | some p =>
    rw [hi] at hu e
    obtain ⟨v, rfl, hrd⟩ := hu
    have sv := hrd.sng
    have okp := hwf.ok p (inn_some hi).1
    have e : reach m a many = if a + many ≤ p.ad + p.room then (0, []) else (0, [190]) := e
    repeat' (first|refine Ga0 fun _=>?_|refine Ga1 ?_|refine Ga2 (fun _=>?_) fun _=>?_|refine Ga3 ?_|refine Ga4 fun _=>?_|fail)
    refine OW.call (pieceEnd p v okp _) ?_
    rintro _ _ ⟨rfl, rfl⟩
    by_cases c3 : a + many ≤ p.ad + p.room
    ·rw [if_pos c3] at e
     rw [e]
     repeat' (first|refine Ga0 fun _=>?_|refine Ga1 ?_|refine Ga2 (fun _=>?_) fun _=>?_|refine Ga3 ?_|refine Ga4 fun _=>?_|fail)
     exact bodyK.retD L (Res.two Tryz.results223) ⟨_, [], rfl, rfl, nilr⟩
    ·rw [if_neg c3] at e
     rw [e]
     repeat' (first|refine Ga0 fun _=>?_|refine Ga1 ?_|refine Ga2 (fun _=>?_) fun _=>?_|refine Ga3 ?_|refine Ga4 fun _=>?_|fail)
     rename_i be
     exact bodyK.retD ((be, .cells #[.int .i64 190] 28 (0, 0)) :: L) (Res.two Tryz.results223) ⟨_, [(be, .cells #[.int .i64 190] 28 (0, 0))], rfl, rfl, Rd.blk (l := [.int .i64 190]) rfl (Nat.le_refl _)⟩
theorem modelUsable (bm bp : Nat) (m : Mod) (hwf : WF m) (x : OpM) (hxr : OpR x) (hk : x.kind = 5) (o : OutM) (vx vb : Value) (sx : Sng vx) (D L : Chunk) [hm : InC L bm (.cells (mcells m bp).toArray 142 (0, 0))] [hD : MemC D L] (hr : MRest D bp m)
  (hb : BS L vb o.bytes) (hor : OutR o) : Fn1 Tryz.prog 151 [.pointer (some ⟨bm, 0, none⟩), opV x vx, outV o vb] L (RowR D L (Md.step m x o)) := by
 intro w0; refine Spec.enter3 Tryz.func151 rfl Tryz.ntmps151 (by decide) ?_
 have z1:DrP 1 [0,1,2,3,4,5,6,7,8,9,10,11,12]:=⟨⟨⟩⟩; have z6:DrP 6 [0,1,2,3,4,5,6,7,8,9,10,11,12]:=⟨⟨⟩⟩
 have hm' := hm
 have svb := hb.sng
 have hr0 := hr
 obtain ⟨es, c, zs, h1, hkv, hz, hp⟩ := hr0
 have h1' : InC L bp (.map es.toArray c) := ⟨hD.out _ h1.out⟩
 repeat' (first|refine Gi0 fun _=>?_|refine Gi1 ?_|refine Gi2 (fun _=>?_) fun _=>?_|refine Gi3 ?_|refine Gi4 fun _=>?_|fail)
 refine RW.lookOk (m := bp) (c := c) (es := es) hkv.keys (fun v hf => ?_) (fun hf => ?_)
 ·obtain ⟨z, hz', hza, hzv⟩ := hz.find hkv hf
  obtain ⟨_, vz, hzv2, hrd⟩ := hz.at_ z hz'
  have svz := hrd.sng
  rw [← hzv, hzv2]
  have hfm : m.find x.ad = some z.2 := by rw [← hza]; exact perm_find hwf hp (List.mem_map.2 ⟨z, hz', rfl⟩)
  have est : Md.step m x o = (m, decide (o.errno = 0 ∧ o.ad = 0 ∧ o.bytes = [] ∧ o.n = z.2.room)) := by unfold Md.step; rw [if_neg (by omega), if_neg (by omega), if_neg (by omega), if_neg (by omega), if_pos hk, hfm]
  repeat' (first|refine Gi0 fun _=>?_|refine Gi1 ?_|refine Gi2 (fun _=>?_) fun _=>?_|refine Gi3 ?_|refine Gi4 fun _=>?_|fail)
  refine RW.call (modelBare { o with n := 0 } vb _ [0] _ hb.to (Rd.blk (l := iv [0]) rfl (Nat.le_refl _)) (by decide)) ?_
  rintro _ _ ⟨rfl, rfl⟩
  refine pinAll ?_
  have eb : bareO { o with n := 0 } [0] ↔ o.errno = 0 ∧ o.ad = 0 ∧ o.bytes = [] := by
   simp only [bareO, noneO, List.mem_singleton, true_and]
   exact ⟨fun ⟨⟨a, b⟩, c⟩ => ⟨c, a, b⟩, fun ⟨a, b, c⟩ => ⟨⟨b, c⟩, a⟩⟩
  have fin : ∀ bb, bb = decide (o.errno = 0 ∧ o.ad = 0 ∧ o.bytes = [] ∧ o.n = z.2.room) → RowR D L (Md.step m x o) (.tuple #[.pointer (some ⟨bm, 0, none⟩), .bool bb]) L := fun bb e => by
   rw [est, ← e]; exact RowR.same (r := (m, bb)) hm hr fun _ => rfl
  by_cases hbo : bareO { o with n := 0 } [0]
  ·rw [decide_eq_true hbo]
   by_cases hn : o.n = z.2.room
   ·repeat' (first|refine Gi0 fun _=>?_|refine Gi1 ?_|refine Gi2 (fun _=>?_) fun _=>?_|refine Gi3 ?_|refine Gi4 fun _=>?_|fail)
    exact bodyK.retD L (Res.two Tryz.results151) (fin true (decide_eq_true ⟨(eb.1 hbo).1, (eb.1 hbo).2.1, (eb.1 hbo).2.2, hn⟩).symm)
   ·repeat' (first|refine Gi0 fun _=>?_|refine Gi1 ?_|refine Gi2 (fun _=>?_) fun _=>?_|refine Gi3 ?_|refine Gi4 fun _=>?_|fail)
    exact bodyK.retD L (Res.two Tryz.results151) (fin false (decide_eq_false fun h => hn h.2.2.2).symm)
  ·rw [decide_eq_false hbo]
   repeat' (first|refine Gi0 fun _=>?_|refine Gi1 ?_|refine Gi2 (fun _=>?_) fun _=>?_|refine Gi3 ?_|refine Gi4 fun _=>?_|fail)
   exact bodyK.retD L (Res.two Tryz.results151) (fin false (decide_eq_false fun h => hbo (eb.2 ⟨h.1, h.2.1, h.2.2.1⟩)).symm)
 ·have hfm : m.find x.ad = none := perm_find_none hp fun p hp' => by
   obtain ⟨z, hz', rfl⟩ := List.mem_map.1 hp'
   exact hz.find_none hkv hf z hz'
  have est : Md.step m x o = (m, decide (bareO o [320])) := by unfold Md.step; rw [if_neg (by omega), if_neg (by omega), if_neg (by omega), if_neg (by omega), if_pos hk, hfm]
  repeat' (first|refine Gi0 fun _=>?_|refine Gi1 ?_|refine Gi2 (fun _=>?_) fun _=>?_|refine Gi3 ?_|refine Gi4 fun _=>?_|fail)
  refine OW.call (modelBare o vb _ [320] _ hb.to (Rd.blk (l := iv [320]) rfl (Nat.le_refl _)) (by decide)) ?_
  rintro _ _ ⟨rfl, rfl⟩
  generalize hbb : decide (bareO o [320]) = bb at est ⊢
  repeat' (first|refine Gi0 fun _=>?_|refine Gi1 ?_|refine Gi2 (fun _=>?_) fun _=>?_|refine Gi3 ?_|refine Gi4 fun _=>?_|fail)
  refine bodyK.retD L (Res.two Tryz.results151) ?_
  rw [est]
  exact RowR.same (r := (m, bb)) hm hr fun _ => rfl
theorem realloc1 (b b8 c : Nat) (es : List MapEntry) (p : Pc) (v v0 : Value) (sv : Sng v) (L : Chunk) [hx : InC L b8 (.cells #[.int .u32 p.ad, .int .i64 p.size, .int .i64 p.room, v] 152 (0, 0))] (hk : KV .u32 es c) (hf : findI es p.ad = some v0) :
  Fn1 Tryz.prog 184 [.map (some b), .pointer (some ⟨b8, 0, none⟩)] ((b, .map es.toArray c) :: L) (fun _ L' => L' = (b, .map (setE .u32 p.ad (pcV p v) es).toArray c) :: L) := by
 intro w0; refine Spec.enter2 Tryz.func184 rfl Tryz.ntmps184 (by decide) ?_
 have hx' := hx
 repeat' (first|refine Ga0 fun _=>?_|refine Ga1 ?_|refine Ga2 (fun _=>?_) fun _=>?_|refine Ga3 ?_|fail)
 refine OW.mapOld (m := b) (k := .u32) (j := p.ad) (c := c) (es := es) hk hf ?_
 repeat' (first|refine Ga0 fun _=>?_|refine Ga1 ?_|refine Ga2 (fun _=>?_) fun _=>?_|refine Ga3 ?_|fail)
 exact bodyK.nrm (Res.zero Tryz.results184) rfl
theorem Zs.set {L : Chunk} {es : List MapEntry} {zs : List (MapEntry × Pc)} {p : Pc} {v : Value} (h : Zs L es zs) (hv : Rd L 1 v p.b.length (iv p.b)) :
  Zs L (setE .u32 p.ad (pcV p v) es) (zs.map fun z => if z.2.ad = p.ad then (MapEntry.mk (.int .u32 p.ad) (pcV p v) z.1.born, p) else z) :=
 ⟨by
  rw [h.es]
  unfold setE
  rw [List.map_map, List.map_map]
  refine List.map_congr_left fun z hz => ?_
  simp only [Function.comp_apply, (h.at_ z hz).1, kI]
  split <;> rfl, fun z hz => by
  obtain ⟨y, hy, rfl⟩ := List.mem_map.1 hz
  split
  ·exact ⟨rfl, v, rfl, hv⟩
  ·exact h.at_ y hy⟩
theorem Zs.set_perm {zs : List (MapEntry × Pc)} {l : List Pc} {p : Pc} {v : Value} (hp : (zs.map (·.2)).Perm l) :
  ((zs.map fun z => if z.2.ad = p.ad then (MapEntry.mk (.int .u32 p.ad) (pcV p v) z.1.born, p) else z).map (·.2)).Perm (l.map fun q => if q.ad = p.ad then p else q) := by
 have : ((zs.map fun z => if z.2.ad = p.ad then (MapEntry.mk (.int .u32 p.ad) (pcV p v) z.1.born, p) else z).map (·.2)) = (zs.map (·.2)).map fun q => if q.ad = p.ad then p else q := by
  rw [List.map_map, List.map_map]
  refine List.map_congr_left fun z _ => ?_
  simp only [Function.comp_apply]
  split <;> rfl
 rw [this]
 exact hp.map _
theorem modelWith2 (bm bp c : Nat) (m : Mod) (es : List MapEntry) (fv : Value) [sf : Sng fv] (L : Chunk) (Q : List MapEntry → Nat → Chunk → Chunk → Prop) [hm : InC L bm (.cells (mcells m bp).toArray 142 (0, 0))] [h1 : InC L bp (.map es.toArray c)]
  (hQ : ∀ es' c' N L2, Q es' c' N L2 → InC L2 bm (.cells (mcells m bp).toArray 142 (0, 0)))
  (hf : ∀ b, VP Tryz.prog fv [.map (some b)] ((b, .map es.toArray c) :: L) (fun _ L' => ∃ N es' c' L2, L' = N ++ ((b, .map es'.toArray c') :: L2) ∧ Q es' c' N L2) noPanic) :
  Fn1 Tryz.prog 64 [.pointer (some ⟨bm, 0, none⟩), fv] L (fun u L' => ∃ bn b N es' c' L2, u = .pointer (some ⟨bn, 0, none⟩) ∧ L' = (bn, .cells (mcells m b).toArray 142 (0, 0)) :: (N ++ ((b, .map es'.toArray c') :: L2)) ∧ Q es' c' N L2) := by
 intro w0; refine Spec.enter2 Tryz.func64 rfl Tryz.ntmps64 (by decide) ?_
 have z3:DrP 3 [0,1,2,3,4,5,6,7,8,9,10,11]:=⟨⟨⟩⟩
 have hm' := hm
 repeat' (first|refine Gi0 fun _=>?_|refine Gi1 ?_|refine Gi2 (fun _=>?_) fun _=>?_|refine Gi3 ?_|refine Gi4 fun _=>?_|fail)
 refine OW.call (mapsClone bp c es _) ?_
 rintro _ _ ⟨b, rfl, rfl⟩
 repeat' (first|refine Gi0 fun _=>?_|refine Gi1 ?_|refine Gi2 (fun _=>?_) fun _=>?_|refine Gi3 ?_|refine Gi4 fun _=>?_|fail)
 refine OW.callV1 (hf b) ?_
 rintro _ _ ⟨N, es', c', L2, rfl, hq⟩
 have hm2 := hQ _ _ _ _ hq
 repeat' (first|refine Gi0 fun _=>?_|refine Gi1 ?_|refine Gi2 (fun _=>?_) fun _=>?_|refine Gi3 ?_|refine Gi4 fun _=>?_|fail)
 exact bodyK.ret (Res.one Tryz.results64) ⟨_, b, N, es', c', L2, rfl, rfl, hq⟩
theorem inj_map {α β : Type} {f : α → β} : ∀ {l : List α}, (l.map f).Nodup → ∀ x ∈ l, ∀ y ∈ l, f x = f y → x = y
 | [], _, _, hx, _, _, _ => by cases hx
 | a :: l, h, x, hx, y, hy, e => by
  rw [List.map_cons, List.nodup_cons] at h
  rcases List.mem_cons.1 hx with rfl | hx1 <;> rcases List.mem_cons.1 hy with rfl | hy1
  ·rfl
  ·exact absurd (List.mem_map.2 ⟨y, hy1, e.symm⟩) h.1
  ·exact absurd (List.mem_map.2 ⟨x, hx1, e⟩) h.1
  ·exact inj_map h.2 x hx1 y hy1 e
theorem LeftZ.map {zs tz : List (MapEntry × Pc)} {seen : Array Nat} {h : MapEntry × Pc → MapEntry × Pc} (hb : ∀ z ∈ zs, (h z).1.born = z.1.born) (hn : ∀ z ∈ zs, seen.contains z.1.born = false → h z = z) (hl : LeftZ zs seen tz) : LeftZ (zs.map h) seen tz := by
 unfold LeftZ at *
 rw [hl]
 clear hl
 induction zs with
 | nil => rfl
 | cons z zs ih =>
  have ih' := ih (fun y hy => hb y (List.mem_cons_of_mem _ hy)) (fun y hy => hn y (List.mem_cons_of_mem _ hy))
  have hbz := hb z (List.mem_cons_self ..)
  rw [List.map_cons, List.filter_cons, List.filter_cons, hbz]
  cases hc : seen.contains z.1.born with
  | true => simpa using ih'
  | false =>
   have := hn z (List.mem_cons_self ..) hc
   rw [this]
   simpa using ih'
structure AccS (a kind : Int) (bs : List Int) (zs : List (MapEntry × Pc)) (seen : Array Nat) (L : Chunk) (es : List MapEntry) (zc : List (MapEntry × Pc)) (f : Bool) : Prop where
 hz : Zs L es zc
 hg : ∃ g : MapEntry × Pc → MapEntry × Pc, zc = zs.map g ∧ ∀ y ∈ zs, (g y).1.born = y.1.born ∧ (g y).2 = if seen.contains y.1.born then over a bs y.2 else y.2
 hf : f = decide (kind = 7 ∨ ∀ z ∈ zs, seen.contains z.1.born = true → agrees a bs z.2)
theorem contains_push {seen : Array Nat} {b x : Nat} : (seen.push b).contains x = (seen.contains x || decide (x = b)) := by
 rw [Array.contains_push]
 by_cases h : x = b
 ·simp [h]
 ·have : (x == b) = false := by simpa using h
  simp [this, h]
theorem AccS.pass {a kind : Int} {bs : List Int} {zs zc : List (MapEntry × Pc)} {seen : Array Nat} {L : Chunk} {es : List MapEntry} {f : Bool} (h : AccS a kind bs zs seen L es zc f) (hn : (zs.map fun z => z.1.born).Nodup) {z : MapEntry × Pc} (hz : z ∈ zc) (hs : seen.contains z.1.born = false) (h1 : over a bs z.2 = z.2) (h2 : agrees a bs z.2) :
  AccS a kind bs zs (seen.push z.1.born) L es zc f := by
 obtain ⟨g, rfl, hg⟩ := h.hg
 obtain ⟨y, hy, rfl⟩ := List.mem_map.1 hz
 obtain ⟨g1, g2⟩ := hg y hy
 rw [g1] at hs
 rw [hs] at g2
 simp only [Bool.false_eq_true, if_false] at g2
 rw [g2] at h1 h2
 refine ⟨h.hz, ⟨g, rfl, fun q hq => ⟨(hg q hq).1, ?_⟩⟩, ?_⟩
 ·rw [(hg q hq).2, contains_push, g1]
  by_cases e : q.1.born = y.1.born
  ·obtain rfl := inj_map hn q hq y hy e
   rw [hs, h1]; simp
  ·simp [e]
 ·rw [h.hf]
  congr 1
  simp only [contains_push, g1, eq_iff_iff]
  constructor
  ·rintro (k | k)
   ·exact .inl k
   ·refine .inr fun q hq hc => ?_
    by_cases e : q.1.born = y.1.born
    ·obtain rfl := inj_map hn q hq y hy e; exact h2
    ·exact k q hq (by simpa [e] using hc)
  ·rintro (k | k)
   ·exact .inl k
   ·exact .inr fun q hq hc => k q hq (by rw [hc, Bool.true_or])
theorem AccS.set {a kind : Int} {bs : List Int} {zs zc : List (MapEntry × Pc)} {seen : Array Nat} {L L' : Chunk} {es : List MapEntry} {f : Bool} (h : AccS a kind bs zs seen L es zc f) [hm : MemC L L'] (hn : (zs.map fun z => z.1.born).Nodup) (hap : ∀ z ∈ zs, ∀ y ∈ zs, z.2.ad = y.2.ad → z = y) {z : MapEntry × Pc} (hz : z ∈ zc) (hs : seen.contains z.1.born = false)
  {v : Value} (hv : Rd L' 1 v (over a bs z.2).b.length (iv (over a bs z.2).b)) : ∃ zc', AccS a kind bs zs (seen.push z.1.born) L' (setE .u32 z.2.ad (pcV (over a bs z.2) v) es) zc' (f && decide (kind = 7 ∨ agrees a bs z.2)) ∧ ∀ tz, LeftZ zc (seen.push z.1.born) tz → LeftZ zc' (seen.push z.1.born) tz := by
 obtain ⟨g, rfl, hg⟩ := h.hg
 obtain ⟨y, hy, rfl⟩ := List.mem_map.1 hz
 obtain ⟨g1, g2⟩ := hg y hy
 rw [g1] at hs
 rw [hs] at g2
 simp only [Bool.false_eq_true, if_false] at g2
 have had : ∀ q ∈ zs, (g q).2.ad = q.2.ad := fun q hq => by rw [(hg q hq).2]; split <;> rfl
 have hset := Zs.set (p := over a bs (g y).2) (h.hz.to (L' := L')) hv
 have hpad : (over a bs (g y).2).ad = y.2.ad := by rw [g2]; rfl
 have e0 : (g y).2.ad = y.2.ad := had y hy
 refine ⟨_, ⟨by rw [show (g y).2.ad = (over a bs (g y).2).ad from rfl]; exact hset, ⟨_, List.map_map, fun q hq => ?_⟩, ?_⟩, fun tz htz => ?_⟩
 ·simp only [Function.comp_apply, hpad, had q hq]
  by_cases e : q = y
  ·subst e
   simp only [if_true, (hg q hq).1, contains_push, decide_true, Bool.or_true, g2, and_self]
  ·have h1 : ¬ q.2.ad = y.2.ad := fun h => e (hap q hq y hy h)
   have h2 : ¬ q.1.born = y.1.born := fun h => e (inj_map hn q hq y hy h)
   rw [if_neg h1]
   refine ⟨(hg q hq).1, ?_⟩
   rw [(hg q hq).2, contains_push, g1]
   simp [h2]
 ·rw [h.hf, g1, g2]
  rw [← Bool.decide_and]
  congr 1
  simp only [contains_push, eq_iff_iff]
  constructor
  ·rintro ⟨k | k, k2⟩
   ·exact .inl k
   ·rcases k2 with k2 | k2
    ·exact .inl k2
    ·refine .inr fun q hq hc => ?_
     by_cases e : q.1.born = y.1.born
     ·obtain rfl := inj_map hn q hq y hy e; exact k2
     ·exact k q hq (by simpa [e] using hc)
  ·rintro (k | k)
   ·exact ⟨.inl k, .inl k⟩
   ·exact ⟨.inr fun q hq hc => k q hq (by rw [hc, Bool.true_or]), .inr (k y hy (by simp))⟩
 ·refine LeftZ.map (fun q hq => ?_) (fun q hq hc => ?_) htz
  ·split <;> rfl
  ·obtain ⟨q', hq', rfl⟩ := List.mem_map.1 hq
   rw [(hg q' hq').1, contains_push, g1] at hc
   have h2 : ¬ q'.1.born = y.1.born := by
    intro e; simp [e] at hc
   have h1 : ¬ q'.2.ad = y.2.ad := fun h => h2 (by rw [hap q' hq' y hy h])
   rw [hpad, had q' hq', if_neg h1]
theorem access1 (b bx bB bf c : Nat) (es : List MapEntry) (zs : List (MapEntry × Pc)) (x : OpM) (hxr : OpR x) (vx vB : Value) (bs : List Int) (D L1 : Chunk) [hDL : MemC D L1] [hx : InC L1 bx (.cells #[.int .i64 x.kind, .int .u32 x.ad, .int .u64 x.size, .int .u64 x.mult, .int .u64 x.many, vx] 50 (0, 0))] [hB : InC L1 bB (.cells #[vB] 48 (0, 0))] (hbs : BS L1 vB bs)
  (hk : KV .u32 es c) (hz : Zs D es zs) (hok : ∀ z ∈ zs, PcOk z.2) (hapart : ∀ z ∈ zs, ∀ y ∈ zs, z.2.ad = y.2.ad → z = y) (hr : x.ad + (bs.length : Int) ≤ 16777216) :
  Fn1 Tryz.prog 224 [.map (some b), .pointer (some ⟨bx, 0, none⟩), .pointer (some ⟨bB, 0, none⟩), .pointer (some ⟨bf, 0, none⟩)] ((b, .map es.toArray c) :: (bf, .cells #[.bool true] 4 (0, 0)) :: L1)
   (fun _ L' => ∃ N es' zs' f, L' = N ++ ((b, .map (List.toArray es') c) :: (bf, .cells #[.bool f] 4 (0, 0)) :: L1) ∧ KV .u32 es' c ∧ Zs (N ++ D) es' zs' ∧ zs'.map (·.2) = zs.map (fun z => over x.ad bs z.2) ∧ f = decide (x.kind = 7 ∨ ∀ z ∈ zs, agrees x.ad bs z.2)) := by
 intro w0; refine Spec.enter4 Tryz.func224 rfl Tryz.ntmps224 (by decide) ?_
 have z3:DrP 3 [0,1,2,3,4,5,6,7,8,9,10,11,12,13,14,15,16]:=⟨⟨⟩⟩
 have hx' := hx
 have hB' := hB
 have ha0 := hxr.ad.1
 have ha1 := hxr.ad.2
 have hn : (zs.map fun z => z.1.born).Nodup := by
  have := hk.births
  rw [hz.es, List.map_map] at this
  exact this
 obtain ⟨aB, cB, rfl⟩ := hbs.slice
 repeat' (first|refine Gi0 fun _=>?_|refine Gi1 ?_|refine Gi2 (fun _=>?_) fun _=>?_|refine Gi3 ?_|refine Gi4 fun _=>?_|fail)
 rename_i r
 refine CW.loop (fun k ρ ds L' => ds = [] ∧ (∃ X ec zc tz seen f, L' = X ++ ((r, .mapIter (some b) c seen c) :: (b, .map (List.toArray ec) c) :: (bf, .cells #[.bool f] 4 (0, 0)) :: L1) ∧ KV .u32 ec c ∧ AccS x.ad x.kind bs zs seen (X ++ D) ec zc f ∧ LeftZ zc seen tz ∧ (∀ z ∈ tz, seen.contains z.1.born = false ∧ z ∈ zc) ∧ k = tz.length) ∧
  Ev ρ 0 (.map (some b)) ∧ Ev ρ 1 (.pointer (some ⟨bx, 0, none⟩)) ∧ Ev ρ 2 (.pointer (some ⟨bB, 0, none⟩)) ∧ Ev ρ 3 (.pointer (some ⟨bf, 0, none⟩)) ∧ Ev ρ 13 (.pointer (some ⟨r, 0, none⟩))) zs.length
  ⟨rfl, ⟨[], es, zs, zs, #[], true, rfl, hk, ⟨hz, ⟨id, (List.map_id zs).symm, fun y _ => ⟨rfl, by simp⟩⟩, by simp⟩, LeftZ.init zs, fun z hz' => ⟨by simp, hz'⟩, rfl⟩, ii, ii, ii, ii, ii⟩ ?_
 rintro k ρ ds L' ⟨rfl, ⟨X, ec, zc, tz, seen, f, rfl, hkc, hacc, hl, htz0, rfl⟩, e0, e1, e2, e3, e13⟩
 repeat' (first|refine Gi0 fun _=>?_|refine Gi1 ?_|refine Gi2 (fun _=>?_) fun _=>?_|refine Gi3 ?_|refine Gi4 fun _=>?_|fail)
 refine OW.nextZ (r := r) (m := b) (since := c) (c0 := c) (clock := c) (seen := seen) (es := ec) (zs := zc) hkc hacc.hz.es hl (fun e he => hkc.old e he) (Nat.le_refl _) (fun h => ?_) (fun A z B htz hz' hl' => ?_)
 ·subst h
  obtain ⟨g, rfl, hg⟩ := hacc.hg
  have hall : ∀ y ∈ zs, seen.contains y.1.born = true := fun y hy => by
   cases hc : seen.contains y.1.born with
   | true => rfl
   | false =>
    have : g y ∈ (zs.map g).filter fun z => !seen.contains z.1.born := List.mem_filter.2 ⟨List.mem_map.2 ⟨y, hy, rfl⟩, by rw [(hg y hy).1, hc]; rfl⟩
    rw [← hl] at this
    cases this
  have hfin := hacc.hf
  have hps : (zs.map g).map (·.2) = zs.map fun z => over x.ad bs z.2 := by
   rw [List.map_map]
   exact List.map_congr_left fun y hy => by simp only [Function.comp_apply]; rw [(hg y hy).2, if_pos (hall y hy)]
  repeat' (first|refine Gi0 fun _=>?_|refine Gi1 ?_|refine Gi2 (fun _=>?_) fun _=>?_|refine Gi3 ?_|refine Gi4 fun _=>?_|fail)
  refine bodyK.nrm (Res.zero Tryz.results224) ⟨X ++ [(r, .mapIter (some b) c seen c)], ec, _, f, by simp, hkc, ?_, hps, ?_⟩
  ·have : MemC (X ++ D) (X ++ [(r, .mapIter (some b) c seen c)] ++ D) := ⟨fun p hp => by
    simp only [List.mem_append] at hp ⊢
    rcases hp with h | h
    ·exact .inl (.inl h)
    ·exact .inr h⟩
   exact hacc.hz.to
  ·rw [hfin]
   congr 1
   rw [eq_iff_iff]
   exact or_congr_right ⟨fun h z hz => h z hz (hall z hz), fun h z hz _ => h z hz⟩
 ·have hzt : z ∈ tz := by rw [htz]; simp
  obtain ⟨hns, _⟩ := htz0 z hzt
  obtain ⟨hkey, v, hzv, hrd⟩ := hacc.hz.at_ z hz'
  have sv := hrd.sng
  have hze : z.1 ∈ ec := by rw [hacc.hz.es]; exact List.mem_map.2 ⟨z, hz', rfl⟩
  have okz : PcOk z.2 := by
   obtain ⟨g, e, hg⟩ := hacc.hg
   rw [e] at hz'
   obtain ⟨y, hy, rfl⟩ := List.mem_map.1 hz'
   have h1 := (hg y hy).2
   rw [← (hg y hy).1, hns] at h1
   rw [h1]
   exact hok y hy
  obtain ⟨zk, p⟩ := z
  simp only at hns hkey hzv hrd okz
  have o1 := okz.ad
  have o2 := okz.room
  have o3 := okz.fin
  have o4 := okz.len
  have htz' : ∀ y ∈ A ++ B, (seen.push zk.born).contains y.1.born = false ∧ y ∈ zc := fun y hy => by
   rw [hl'] at hy
   have := List.mem_filter.1 hy
   exact ⟨by simpa using this.2, this.1⟩
  repeat' (first|refine Gi0 fun _=>?_|refine Gi1 ?_|refine Gi2 (fun _=>?_) fun _=>?_|refine Gi3 ?_|refine Gi4 fun _=>?_|fail)
  refine OW.entryE (r := r) (m := b) (since := c) (c := c) (seen := seen) (e := zk) hkc hze ?_
  rw [hkey, hzv]
  repeat' (first|refine Gi0 fun _=>?_|refine Gi1 ?_|refine Gi2 (fun _=>?_) fun _=>?_|refine Gi3 ?_|refine Gi4 fun _=>?_|fail)
  rename_i b6
  refine RW.call (pieceEnd p v okz _) ?_
  rintro _ _ ⟨rfl, rfl⟩
  refine pinAll ?_
  repeat' (first|refine Gi0 fun _=>?_|refine Gi1 ?_|refine Gi2 (fun _=>?_) fun _=>?_|refine Gi3 ?_|refine Gi4 fun _=>?_|fail)
  ·refine ⟨(A ++ B).length, by rw [htz]; simp, rfl, ⟨(b6, _) :: X, ec, zc, A ++ B, seen.push zk.born, f, rfl, hkc, ?_, hl', htz', rfl⟩, ii, ii, ii, ii, ii⟩
   have h0 := hacc.pass hn hz' hns (over_none o4 (by assumption)) (agrees_none o4 (by assumption))
   have hmc : MemC (X ++ D) ((b6, Obj.cells #[Value.int .u32 p.ad, Value.int .i64 p.size, Value.int .i64 p.room, v] 152 (0, 0)) :: X ++ D) := ⟨fun q hq => List.mem_cons_of_mem _ hq⟩
   exact ⟨h0.hz.to, h0.hg, h0.hf⟩
  ·rename_i hov
   generalize hlo : max x.ad p.ad = lo at *
   generalize hhi : min (x.ad + (bs.length : Int)) (p.ad + p.room) = hi at *
   repeat' (first|refine Gi0 fun _=>?_|refine Gi1 ?_|refine Gi2 (fun _=>?_) fun _=>?_|refine Gi3 ?_|refine Gi4 fun _=>?_|fail)
   refine OW.call (cloneI v p.b _ hrd.to (by omega)) ?_
   rintro u _ ⟨N1, rfl, hrow⟩
   obtain ⟨b1, cap, rest, rfl, rfl, hcap, hrl⟩ : ∃ b1 cap rest, u = .slice (some ⟨b1, 0, none⟩) p.b.length cap ∧ N1 = [(b1, .cells (iv p.b ++ rest).toArray 3 (0, 0))] ∧ p.b.length ≤ cap ∧ (iv p.b ++ rest).length = cap * 1 := by
    rcases hrow.2 with ⟨_, h2, _⟩ | ⟨b1, cap, rest, h⟩
    ·omega
    ·exact ⟨b1, cap, rest, h⟩
   obtain ⟨bb, ko, capb, lb, eb, frb, hbe, hbin, hbc, hbn⟩ := hbs.rd.open1 (by omega)
   cases hbe
   have h5 := hbs.byt
   have hl1 : x.ad ≤ lo := by omega
   have hl2 : p.ad ≤ lo := by omega
   have hh1 : hi ≤ x.ad + bs.length := by omega
   have hh2 : hi ≤ p.ad + p.room := by omega
   have hlh : lo < hi := by omega
   repeat' (first|refine Gi0 fun _=>?_|refine Gi1 ?_|refine Gi2 (fun _=>?_) fun _=>?_|refine Gi3 ?_|refine Gi4 fun _=>?_|fail)
   refine CW.count (hi - lo).toNat (fun i ρ ds L' => ds = [] ∧ (∃ fl, L' = (b1, .cells (iv (overK x.ad bs p.ad (lo + i) p.b) ++ rest).toArray 3 (0, 0)) :: (b6, .cells #[.int .u32 p.ad, .int .i64 p.size, .int .i64 p.room, .slice (some ⟨b1, 0, none⟩) p.b.length cap] 152 (0, 0)) :: (X ++ ((r, .mapIter (some b) c (seen.push zk.born) c) :: (b, .map ec.toArray c) :: (bf, .cells #[.bool fl] 4 (0, 0)) :: L1)) ∧ fl = (f && decide (x.kind = 7 ∨ agreesK x.ad bs p.ad (lo + i) p.b))) ∧
    Ev ρ 0 (.map (some b)) ∧ Ev ρ 1 (.pointer (some ⟨bx, 0, none⟩)) ∧ Ev ρ 2 (.pointer (some ⟨bB, 0, none⟩)) ∧ Ev ρ 3 (.pointer (some ⟨bf, 0, none⟩)) ∧ Ev ρ 13 (.pointer (some ⟨r, 0, none⟩)) ∧ Ev ρ 5 (.int .u32 p.ad) ∧ Ev ρ 6 (.pointer (some ⟨b6, 0, none⟩)) ∧ Ev ρ 8 (.int .i64 hi) ∧ Ev ρ 9 (.int .i64 (lo + i)))
    ⟨rfl, ⟨f, ?_, ?_⟩, ii, ii, ii, ii, ii, ii, ii, ii, by rw [Int.natCast_zero, Int.add_zero]; infer_instance⟩ ?_
   ·rw [Int.natCast_zero, Int.add_zero, ← hlo, overK_start]; rfl
   ·rw [Int.natCast_zero, Int.add_zero, ← hlo, decide_eq_true (Or.inr agreesK_start), Bool.and_true]
   rintro i ρ ds L' hi0 ⟨rfl, ⟨fl, rfl, hfl⟩, e0, e1, e2, e3, e13, e5, e6, e8, e9⟩
   by_cases hlt : lo + (i : Int) < hi
   ·obtain ⟨d1, hd1⟩ : ∃ d : Nat, (d : Int) = lo + i - p.ad := ⟨_, Int.toNat_of_nonneg (by omega)⟩
    obtain ⟨d2, hd2⟩ : ∃ d : Nat, (d : Int) = lo + i - x.ad := ⟨_, Int.toNat_of_nonneg (by omega)⟩
    have t1 : ToN (lo + (i : Int) - p.ad) d1 := ⟨by omega⟩
    have t2 : ToN (lo + (i : Int) - x.ad) d2 := ⟨by omega⟩
    have hd1b : d1 < p.b.length := by omega
    have hd2b : d2 < bs.length := by omega
    have n2 := hbn d2 _ hd2b (bv_get hd2b)
    have y0 := (h5 bs[d2] (List.getElem_mem _)).1
    have y1 := (h5 bs[d2] (List.getElem_mem _)).2
    have hgd : bs.getD (lo + (i : Int) - x.ad).toNat 0 = bs[d2] := by rw [t2.out, List.getD_eq_getElem?_getD, List.getElem?_eq_getElem hd2b]; rfl
    have n1 : NthL (iv (overK x.ad bs p.ad (lo + i) p.b) ++ rest) d1 (.int .i64 p.b[d1]) := ⟨by
     rw [List.getElem?_append_left (by simp only [iv, List.length_map, overK_len]; exact hd1b)]
     simp only [iv, List.getElem?_map, overK_old hd1b hd1, Option.map_some]⟩
    have st : SetL (iv (overK x.ad bs p.ad (lo + i) p.b) ++ rest) d1 (.int .i64 bs[d2]) (iv (overK x.ad bs p.ad (lo + (i + 1 : Nat)) p.b) ++ rest) := ⟨by
     simp only [List.length_append, iv, List.length_map, overK_len]; omega, by
     rw [show lo + ((i + 1 : Nat) : Int) = lo + i + 1 by omega, overK_step (by omega) (by omega) (by omega), t1.out, hgd, List.set_append_left _ _ (by simp only [iv, List.length_map, overK_len]; exact hd1b)]
     simp only [iv, List.map_set]⟩
    have hag := agreesK_step (a := x.ad) (bs := bs) (ad := p.ad) (k := lo + (i : Int)) (b := p.b) (by omega) (by omega) hd1b hd1
    rw [hgd, show lo + (i : Int) + 1 = lo + ((i + 1 : Nat) : Int) by omega] at hag
    generalize hz0 : p.b[d1] = z0 at *
    generalize hz1 : bs[d2] = z1 at *
    have fin : ∀ fl', fl' = (f && decide (x.kind = 7 ∨ agreesK x.ad bs p.ad (lo + ((i + 1 : Nat) : Int)) p.b)) → ∃ fl, (b1, Obj.cells (iv (overK x.ad bs p.ad (lo + ((i + 1 : Nat) : Int)) p.b) ++ rest).toArray 3 (0, 0)) :: (b6, .cells #[.int .u32 p.ad, .int .i64 p.size, .int .i64 p.room, .slice (some ⟨b1, 0, none⟩) p.b.length cap] 152 (0, 0)) :: (X ++ ((r, .mapIter (some b) c (seen.push zk.born) c) :: (b, .map ec.toArray c) :: (bf, .cells #[.bool fl'] 4 (0, 0)) :: L1)) = (b1, .cells (iv (overK x.ad bs p.ad (lo + ((i + 1 : Nat) : Int)) p.b) ++ rest).toArray 3 (0, 0)) :: (b6, .cells #[.int .u32 p.ad, .int .i64 p.size, .int .i64 p.room, .slice (some ⟨b1, 0, none⟩) p.b.length cap] 152 (0, 0)) :: (X ++ ((r, .mapIter (some b) c (seen.push zk.born) c) :: (b, .map ec.toArray c) :: (bf, .cells #[.bool fl] 4 (0, 0)) :: L1)) ∧ fl = (f && decide (x.kind = 7 ∨ agreesK x.ad bs p.ad (lo + ((i + 1 : Nat) : Int)) p.b)) := fun fl' h => ⟨fl', rfl, h⟩
    have e9' : lo + (i : Int) + 1 = lo + ((i + 1 : Nat) : Int) := by omega
    cases fl with
    | false =>
     have hn : false = (f && decide (x.kind = 7 ∨ agreesK x.ad bs p.ad (lo + ((i + 1 : Nat) : Int)) p.b)) := by
      cases f with
      | false => rfl
      | true =>
       simp only [Bool.true_and] at hfl ⊢
       have := of_decide_eq_false hfl.symm
       exact (decide_eq_false fun h => this (h.imp id fun g => (hag.1 g).1)).symm
     repeat' (first|refine Gi0 fun _=>?_|refine Gi1 ?_|refine Gi2 (fun _=>?_) fun _=>?_|refine Gi3 ?_|refine Gi4 fun _=>?_|fail)
     rw [e9']
     exact ⟨by omega, rfl, fin _ hn, ii, ii, ii, ii, ii, ii, ii, ii, ii⟩
    | true =>
     obtain ⟨hf1, hf2⟩ : f = true ∧ (x.kind = 7 ∨ agreesK x.ad bs p.ad (lo + i) p.b) := by
      simp only [Bool.true_eq, Bool.and_eq_true, decide_eq_true_eq] at hfl; exact hfl
     subst hf1
     by_cases hk7 : x.kind = 7
     ·have hn : true = (true && decide (x.kind = 7 ∨ agreesK x.ad bs p.ad (lo + ((i + 1 : Nat) : Int)) p.b)) := by rw [decide_eq_true (Or.inl hk7)]; rfl
      repeat' (first|refine Gi0 fun _=>?_|refine Gi1 ?_|refine Gi2 (fun _=>?_) fun _=>?_|refine Gi3 ?_|refine Gi4 fun _=>?_|fail)
      rw [e9']
      exact ⟨by omega, rfl, fin _ hn, ii, ii, ii, ii, ii, ii, ii, ii, ii⟩
     ·have hf3 := hf2.resolve_left hk7
      by_cases hz2 : z0 = -1
      ·have hn : true = (true && decide (x.kind = 7 ∨ agreesK x.ad bs p.ad (lo + ((i + 1 : Nat) : Int)) p.b)) := by rw [decide_eq_true (Or.inr (hag.2 ⟨hf3, .inl hz2⟩))]; rfl
       repeat' (first|refine Gi0 fun _=>?_|refine Gi1 ?_|refine Gi2 (fun _=>?_) fun _=>?_|refine Gi3 ?_|refine Gi4 fun _=>?_|fail)
       rw [e9']
       exact ⟨by omega, rfl, fin _ hn, ii, ii, ii, ii, ii, ii, ii, ii, ii⟩
      ·by_cases hz3 : z0 = z1
       ·have hn : true = (true && decide (x.kind = 7 ∨ agreesK x.ad bs p.ad (lo + ((i + 1 : Nat) : Int)) p.b)) := by rw [decide_eq_true (Or.inr (hag.2 ⟨hf3, .inr hz3⟩))]; rfl
        repeat' (first|refine Gi0 fun _=>?_|refine Gi1 ?_|refine Gi2 (fun _=>?_) fun _=>?_|refine Gi3 ?_|refine Gi4 fun _=>?_|fail)
        rw [e9']
        exact ⟨by omega, rfl, fin _ hn, ii, ii, ii, ii, ii, ii, ii, ii, ii⟩
       ·have hn : false = (true && decide (x.kind = 7 ∨ agreesK x.ad bs p.ad (lo + ((i + 1 : Nat) : Int)) p.b)) := by
         rw [decide_eq_false fun h => (h.resolve_left hk7 |> hag.1).2.elim hz2 hz3]; rfl
        repeat' (first|refine Gi0 fun _=>?_|refine Gi1 ?_|refine Gi2 (fun _=>?_) fun _=>?_|refine Gi3 ?_|refine Gi4 fun _=>?_|fail)
        rw [e9']
        exact ⟨by omega, rfl, fin _ hn, ii, ii, ii, ii, ii, ii, ii, ii, ii⟩
   ·have hik : lo + (i : Int) = hi := by omega
    rw [hik] at hfl e9 ⊢
    have hoe : overK x.ad bs p.ad hi p.b = (over x.ad bs p).b := by rw [← hhi]; exact overK_end o4
    have hae : agreesK x.ad bs p.ad hi p.b ↔ agrees x.ad bs p := by rw [← hhi]; exact agreesK_end o4
    rw [hoe] at *
    have hfl' : fl = (f && decide (x.kind = 7 ∨ agrees x.ad bs p)) := by rw [hfl]; congr 2; rw [hae]
    clear hfl
    have hlen : p.b.length = (over x.ad bs p).b.length := (over_len ..).symm
    have hmc : MemC (X ++ D) ((b1, .cells (iv (over x.ad bs p).b ++ rest).toArray 3 (0, 0)) :: (b6, Obj.cells #[Value.int .u32 p.ad, Value.int .i64 p.size, Value.int .i64 p.room, .slice (some ⟨b1, 0, none⟩) p.b.length cap] 152 (0, 0)) :: X ++ D) := ⟨fun q hq => List.mem_cons_of_mem _ (List.mem_cons_of_mem _ hq)⟩
    obtain ⟨zc', hset, hlz⟩ := hacc.set (L' := (b1, .cells (iv (over x.ad bs p).b ++ rest).toArray 3 (0, 0)) :: (b6, Obj.cells #[Value.int .u32 p.ad, Value.int .i64 p.size, Value.int .i64 p.room, .slice (some ⟨b1, 0, none⟩) p.b.length cap] 152 (0, 0)) :: X ++ D) (v := .slice (some ⟨b1, 0, none⟩) p.b.length cap) hn hapart hz' hns (by
     refine ⟨by simp [iv], .inr ⟨b1, 0, cap, _, _, _, by rw [← hlen], List.mem_cons_self .., ?_, ?_, by show (over x.ad bs p).b.length ≤ cap; rw [← hlen]; exact hcap⟩⟩
     ·simp only [Nat.zero_add, Nat.mul_one, List.size_toArray, List.length_append, iv, List.length_map]; omega
     ·simp [iv])
    have hfi : findI ec p.ad = some (pcV p v) := by
     have := hkc.find_of hze
     simp only [hkey, kI_int, hzv] at this
     exact this
    repeat' (first|refine Gi0 fun _=>?_|refine Gi1 ?_|refine Gi2 (fun _=>?_) fun _=>?_|refine Gi3 ?_|refine Gi4 fun _=>?_|fail)
    refine OW.mapOld (v0 := pcV p v) hkc hfi ?_
    repeat' (first|refine Gi0 fun _=>?_|refine Gi1 ?_|refine Gi2 (fun _=>?_) fun _=>?_|refine Gi3 ?_|refine Gi4 fun _=>?_|fail)
    have hl2' := hlz _ hl'
    refine ⟨(A ++ B).length, by rw [htz]; simp, rfl, ⟨_ :: _ :: X, _, zc', A ++ B, seen.push zk.born, fl, rfl, hkc.set, ?_, hl2', fun y hy => ?_, rfl⟩, ii, ii, ii, ii, ii⟩
    ·rw [hfl']; exact hset
    ·rw [hl2'] at hy
     have := List.mem_filter.1 hy
     exact ⟨by simpa using this.2, this.1⟩
theorem modelAccess (bm bp : Nat) (m : Mod) (hwf : WF m) (x : OpM) (hxr : OpR x) (o : OutM) (vx vb vB : Value) (bs : List Int) (many : Int) (hmany : 0 ≤ many ∧ many ≤ 18446744073709551615) (sx : Sng vx) (D L : Chunk) [hm : InC L bm (.cells (mcells m bp).toArray 142 (0, 0))] [hD : MemC D L] (hr : MRest D bp m)
  (hb : BS L vb o.bytes) (hB : BS L vB bs) (hor : OutR o) : Fn1 Tryz.prog 185 [.pointer (some ⟨bm, 0, none⟩), opV x vx, outV o vb, vB, .int .u64 many] L (RowR D L (Md.access m x.kind x.ad o bs many)) := by
 intro w0; refine Spec.enter5 Tryz.func185 rfl Tryz.ntmps185 (by decide) ?_
 have hm' := hm
 have svb := hb.sng
 obtain ⟨aB, cB, rfl⟩ := hB.slice
 obtain ⟨m1, m2⟩ := hmany
 obtain ⟨k1, k2⟩ := hxr.kind
 have ad1 := hxr.ad
 have hbl := hB.len
 have hr0 := hr
 obtain ⟨es, c, zs, h1, hkv, hz, hp⟩ := hr0
 have h1' : InC L bp (.map es.toArray c) := ⟨hD.out _ h1.out⟩
 repeat' (first|refine Ga0 fun _=>?_|refine Ga1 ?_|refine Ga2 (fun _=>?_) fun _=>?_|refine Ga3 ?_|refine Ga4 fun _=>?_|fail)
 rename_i b6 b7 b8
 refine OW.call (modelReach bm bp m hwf x.ad many hxr.ad ⟨m1, m2⟩ D _ hr) ?_
 rintro _ _ ⟨ve, N, rfl, rfl, hrd⟩
 have sve := hrd.sng
 have e0 : Md.access m x.kind x.ad o bs many = if (reach m x.ad many).1 ≠ 0 then (m, decide (bareO o [(reach m x.ad many).1])) else if o.errno ≠ 0 then (m, decide (bareO o (reach m x.ad many).2))
  else if o.ad ≠ 0 ∨ o.n ≠ 0 ∨ (bs.length : Int) ≠ many then (m, false) else if x.kind = 7 ∨ ∀ p ∈ m.L, agrees x.ad bs p then ({ m with L := m.L.map (over x.ad bs) }, true) else (m, false) := rfl
 generalize hrr : reach m x.ad many = r at *
 obtain ⟨r1, r2⟩ := r
 simp only at e0 hrd ⊢
 by_cases c1 : r1 = 0
 ·rw [if_neg (fun h => h c1)] at e0
  subst c1
  by_cases c2 : o.errno = 0
  ·rw [if_neg (fun h => h c2)] at e0
   have bad : o.ad ≠ 0 ∨ o.n ≠ 0 ∨ (bs.length : Int) ≠ many → Md.access m x.kind x.ad o bs many = (m, false) := fun h => by rw [e0, if_pos h]
   have hf : Md.access m x.kind x.ad o bs many = (m, false) → RowR D L (Md.access m x.kind x.ad o bs many) (.tuple #[.pointer (some ⟨bm, 0, none⟩), .bool false]) L := fun h => by rw [h]; exact RowR.same (r := (m, false)) hm hr fun h => (by cases h)
   by_cases c3 : o.ad = 0
   ·by_cases c4 : o.n = 0
    ·by_cases c5 : (bs.length : Int) = many
     ·have hreach : x.ad + (bs.length : Int) ≤ 16777216 := by
       unfold reach at hrr
       split at hrr
       ·cases hrr
       ·split at hrr
        ·cases hrr
        ·omega
      rw [if_neg (by omega)] at e0
      have hok : ∀ z ∈ zs, PcOk z.2 := fun z hz' => hwf.ok z.2 (hp.mem_iff.1 (List.mem_map.2 ⟨z, hz', rfl⟩))
      have hapart : ∀ z ∈ zs, ∀ y ∈ zs, z.2.ad = y.2.ad → z = y := by
       have hn : (zs.map fun z => kI z.1.key).Nodup := by
        have := hkv.apart
        rw [hz.es, List.map_map] at this
        exact this
       intro z hz' y hy e
       refine inj_map hn z hz' y hy ?_
       rw [(hz.at_ z hz').1, (hz.at_ y hy).1]
       exact e
      repeat' (first|refine Ga0 fun _=>?_|refine Ga1 ?_|refine Ga2 (fun _=>?_) fun _=>?_|refine Ga3 ?_|refine Ga4 fun _=>?_|fail)
      rename_i b14
      have hlen : (∀ z ∈ zs, agrees x.ad bs z.2) ↔ ∀ p ∈ m.L, agrees x.ad bs p :=
       ⟨fun h p hp' => by obtain ⟨z, hz', rfl⟩ := List.mem_map.1 (hp.mem_iff.2 hp'); exact h z hz', fun h z hz' => h z.2 (hp.mem_iff.1 (List.mem_map.2 ⟨z, hz', rfl⟩))⟩
      have hd : decide (x.kind = 7 ∨ ∀ z ∈ zs, agrees x.ad bs z.2) = decide (x.kind = 7 ∨ ∀ p ∈ m.L, agrees x.ad bs p) := by congr 1; rw [hlen]
      generalize hB0 : (b8, Obj.cells #[Value.slice aB bs.length cB] 48 (0, 0)) = o8 at *
      generalize hB1 : (b7, Obj.cells #[Value.int .i64 o.errno, Value.int .u32 o.ad, Value.int .i64 o.n, vb] 56 (0, 0)) = o7 at *
      generalize hB2 : (b6, Obj.cells #[Value.int .i64 x.kind, Value.int .u32 x.ad, Value.int .u64 x.size, Value.int .u64 x.mult, Value.int .u64 x.many, vx] 50 (0, 0)) = o6 at *
      refine OW.call (modelWith2 bm bp c m es _ _ (fun es' c' N1 L2 => ∃ zs' f, c' = c ∧ L2 = (b14, .cells #[.bool f] 4 (0, 0)) :: (N ++ o8 :: o7 :: o6 :: L) ∧ KV .u32 es' c ∧ Zs (N1 ++ D) es' zs' ∧ zs'.map (·.2) = zs.map (fun z => over x.ad bs z.2) ∧ f = decide (x.kind = 7 ∨ ∀ p ∈ m.L, agrees x.ad bs p)) (fun es' c' N1 L2 hq => ?_) (fun b => ?_)) ?_
      ·obtain ⟨zs', f, _, rfl, _⟩ := hq
       infer_instance
      ·subst hB0 hB1 hB2
       refine FnP.vp (first := #[]) (cap := #[.pointer (some ⟨b6, 0, none⟩), .pointer (some ⟨b8, 0, none⟩), .pointer (some ⟨b14, 0, none⟩)]) ((access1 b b6 b8 b14 c es zs x hxr vx _ bs D _ hB.to hkv hz hok hapart hreach).mono (fun _ L' e => ?_) (fun _ _ h => h))
       obtain ⟨N1, es', zs', f, rfl, g1, g2, g3, g4⟩ := e
       exact ⟨N1, es', c, _, rfl, zs', f, rfl, rfl, g1, g2, g3, g4.trans hd⟩
      rintro _ _ ⟨bn, b, N1, es', c', L2, rfl, rfl, zs', f, rfl, rfl, g1, g2, g3, g4⟩
      have hrow : f = true → InC ((bn, .cells (mcells m b).toArray 142 (0, 0)) :: (N1 ++ (b, .map (List.toArray es') c') :: L)) bn (.cells (mcells { m with L := m.L.map (over x.ad bs) } b).toArray 142 (0, 0)) ∧ MRest (((bn, .cells (mcells m b).toArray 142 (0, 0)) :: (N1 ++ [(b, .map (List.toArray es') c')])) ++ D) b { m with L := m.L.map (over x.ad bs) } := fun _ => by
       refine ⟨⟨by simp [mcells]⟩, es', c', zs', ⟨by simp⟩, g1, ?_, ?_⟩
       ·have : MemC (N1 ++ D) (((bn, .cells (mcells m b).toArray 142 (0, 0)) :: (N1 ++ [(b, .map (List.toArray es') c')])) ++ D) := ⟨fun q hq => by
         simp only [List.mem_append, List.mem_cons] at hq ⊢
         rcases hq with h | h
         ·exact .inl (.inr (.inl h))
         ·exact .inr h⟩
        exact g2.to
       ·have hmm : zs.map (fun z => over x.ad bs z.2) = (zs.map (·.2)).map (over x.ad bs) := by rw [List.map_map]; rfl
        rw [g3, hmm]
        exact hp.map _
      cases f with
      | false =>
       rw [if_neg (of_decide_eq_false g4.symm)] at e0
       repeat' (first|refine Ga0 fun _=>?_|refine Ga1 ?_|refine Ga2 (fun _=>?_) fun _=>?_|refine Ga3 ?_|refine Ga4 fun _=>?_|fail)
       exact bodyK.retD L (Res.two Tryz.results185) (hf e0)
      | true =>
       rw [if_pos (of_decide_eq_true g4.symm)] at e0
       repeat' (first|refine Ga0 fun _=>?_|refine Ga1 ?_|refine Ga2 (fun _=>?_) fun _=>?_|refine Ga3 ?_|refine Ga4 fun _=>?_|fail)
       refine bodyK.retD ((bn, .cells (mcells m b).toArray 142 (0, 0)) :: (N1 ++ (b, .map (List.toArray es') c') :: L)) (Res.two Tryz.results185) ?_
       rw [e0]
       exact ⟨(bn, .cells (mcells m b).toArray 142 (0, 0)) :: (N1 ++ [(b, .map (List.toArray es') c')]), bn, b, rfl, by simp, hrow⟩
     ·repeat' (first|refine Ga0 fun _=>?_|refine Ga1 ?_|refine Ga2 (fun _=>?_) fun _=>?_|refine Ga3 ?_|refine Ga4 fun _=>?_|fail)
      exact bodyK.retD L (Res.two Tryz.results185) (hf (bad (.inr (.inr c5))))
    ·repeat' (first|refine Ga0 fun _=>?_|refine Ga1 ?_|refine Ga2 (fun _=>?_) fun _=>?_|refine Ga3 ?_|refine Ga4 fun _=>?_|fail)
     exact bodyK.retD L (Res.two Tryz.results185) (hf (bad (.inr (.inl c4))))
   ·repeat' (first|refine Ga0 fun _=>?_|refine Ga1 ?_|refine Ga2 (fun _=>?_) fun _=>?_|refine Ga3 ?_|refine Ga4 fun _=>?_|fail)
    exact bodyK.retD L (Res.two Tryz.results185) (hf (bad (.inl c3)))
  ·rw [if_pos c2] at e0
   repeat' (first|refine Ga0 fun _=>?_|refine Ga1 ?_|refine Ga2 (fun _=>?_) fun _=>?_|refine Ga3 ?_|refine Ga4 fun _=>?_|fail)
   refine OW.call (modelBare o vb _ r2 _ hb.to hrd.to ?_) ?_
   ·have : r2 = [] ∨ r2 = [190] := by
     unfold reach at hrr
     split at hrr
     ·cases hrr
     ·split at hrr
      ·cases hrr
      ·split at hrr
       ·split at hrr <;> cases hrr
        ·exact .inl rfl
        ·exact .inr rfl
       ·cases hrr; exact .inr rfl
    rcases this with rfl | rfl <;> simp
   rintro _ _ ⟨rfl, rfl⟩
   generalize hbb : decide (bareO o r2) = bb at e0 ⊢
   repeat' (first|refine Ga0 fun _=>?_|refine Ga1 ?_|refine Ga2 (fun _=>?_) fun _=>?_|refine Ga3 ?_|refine Ga4 fun _=>?_|fail)
   refine bodyK.retD L (Res.two Tryz.results185) ?_
   rw [e0]
   exact RowR.same (r := (m, bb)) hm hr fun _ => rfl
 ·rw [if_pos c1] at e0
  repeat' (first|refine Ga0 fun _=>?_|refine Ga1 ?_|refine Ga2 (fun _=>?_) fun _=>?_|refine Ga3 ?_|refine Ga4 fun _=>?_|fail)
  refine OW.call (modelBare o vb _ [r1] _ hb.to (Rd.blk (l := iv [r1]) rfl (Nat.le_refl _)) (by simp)) ?_
  rintro _ _ ⟨rfl, rfl⟩
  generalize hbb : decide (bareO o [r1]) = bb at e0 ⊢
  repeat' (first|refine Ga0 fun _=>?_|refine Ga1 ?_|refine Ga2 (fun _=>?_) fun _=>?_|refine Ga3 ?_|refine Ga4 fun _=>?_|fail)
  refine bodyK.retD L (Res.two Tryz.results185) ?_
  rw [e0]
  exact RowR.same (r := (m, bb)) hm hr fun _ => rfl
theorem RowR.more {D B L : Chunk} {r : Mod × Bool} {u : Value} {L' : Chunk} (h : RowR D (B ++ L) r u L') : RowR D L r u L' := by
 obtain ⟨N, bn, b2, rfl, rfl, h⟩ := h
 refine ⟨N ++ B, bn, b2, rfl, by rw [List.append_assoc], fun e => ⟨(h e).1, ?_⟩⟩
 have : MemC (N ++ D) ((N ++ B) ++ D) := ⟨fun q hq => by
  simp only [List.mem_append] at hq ⊢
  rcases hq with h | h
  ·exact .inl (.inl h)
  ·exact .inr h⟩
 exact (h e).2.to
theorem modelLoad (bm bp : Nat) (m : Mod) (hwf : WF m) (x : OpM) (hxr : OpR x) (hk : x.kind = 6) (o : OutM) (vx vb : Value) (sx : Sng vx) (D L : Chunk) [hm : InC L bm (.cells (mcells m bp).toArray 142 (0, 0))] [hD : MemC D L] (hr : MRest D bp m)
  (hb : BS L vb o.bytes) (hor : OutR o) : Fn1 Tryz.prog 152 [.pointer (some ⟨bm, 0, none⟩), opV x vx, outV o vb] L (RowR D L (Md.step m x o)) := by
 intro w0; refine Spec.enter3 Tryz.func152 rfl Tryz.ntmps152 (by decide) ?_
 have hm' := hm
 have svb := hb.sng
 have est : Md.step m x o = Md.access m x.kind x.ad o o.bytes x.many := by unfold Md.step; rw [if_neg (by omega), if_neg (by omega), if_neg (by omega), if_neg (by omega), if_neg (by omega), if_pos hk, hk]
 rw [est]
 repeat' (first|refine Ga0 fun _=>?_|refine Ga1 ?_|refine Ga2 (fun _=>?_) fun _=>?_|refine Ga3 ?_|refine Ga4 fun _=>?_|fail)
 refine OW.call (modelAccess bm bp m hwf x hxr o vx vb vb o.bytes x.many hxr.many sx D _ hr hb.to hb.to hor) ?_
 intro u L' hrow
 have hrow2 : RowR D L (Md.access m x.kind x.ad o o.bytes x.many) u L' := RowR.more (B := [_, _]) hrow
 clear hrow
 have hrow3 := hrow2
 obtain ⟨N, bn, b2, rfl, rfl, hrow⟩ := hrow3
 generalize Md.access m x.kind x.ad o o.bytes x.many = r at *
 repeat' (first|refine Ga0 fun _=>?_|refine Ga1 ?_|refine Ga2 (fun _=>?_) fun _=>?_|refine Ga3 ?_|refine Ga4 fun _=>?_|fail)
 exact bodyK.ret (Res.two Tryz.results152) hrow2
theorem modelStore (bm bp : Nat) (m : Mod) (hwf : WF m) (x : OpM) (hxr : OpR x) (hk7 : x.kind = 7) (o : OutM) (vx vb : Value) (D L : Chunk) (hvx : BS L vx x.bytes) [hm : InC L bm (.cells (mcells m bp).toArray 142 (0, 0))] [hD : MemC D L] (hr : MRest D bp m)
  (hb : BS L vb o.bytes) (hor : OutR o) : Fn1 Tryz.prog 153 [.pointer (some ⟨bm, 0, none⟩), opV x vx, outV o vb] L (RowR D L (Md.step m x o)) := by
 have sx := hvx.sng
 intro w0; refine Spec.enter3 Tryz.func153 rfl Tryz.ntmps153 (by decide) ?_
 have hm' := hm
 obtain ⟨ab, cb, rfl⟩ := hb.slice
 obtain ⟨ax, cx, rfl⟩ := hvx.slice
 have est : Md.step m x o = if o.bytes ≠ [] then (m, false) else Md.access m x.kind x.ad o x.bytes x.bytes.length := by unfold Md.step; rw [if_neg (by omega), if_neg (by omega), if_neg (by omega), if_neg (by omega), if_neg (by omega), if_neg (by omega), hk7]
 have hl1 := hb.len
 have hl2 := hvx.len
 by_cases c1 : o.bytes.length = 0
 ·have c2 := List.eq_nil_of_length_eq_zero c1
  rw [if_neg (fun h => h c2)] at est
  rw [est]
  repeat' (first|refine Ga0 fun _=>?_|refine Ga1 ?_|refine Ga2 (fun _=>?_) fun _=>?_|refine Ga3 ?_|refine Ga4 fun _=>?_|fail)
  refine OW.call (modelAccess bm bp m hwf x hxr o _ _ _ x.bytes x.bytes.length ⟨by omega, by omega⟩ ii D _ hr hb.to hvx.to hor) ?_
  intro u L' hrow
  have hrow2 : RowR D L (Md.access m x.kind x.ad o x.bytes x.bytes.length) u L' := RowR.more (B := [_, _]) hrow
  clear hrow
  have hrow3 := hrow2
  obtain ⟨N, bn, b2, rfl, rfl, hrow⟩ := hrow3
  generalize Md.access m x.kind x.ad o x.bytes x.bytes.length = r at *
  repeat' (first|refine Ga0 fun _=>?_|refine Ga1 ?_|refine Ga2 (fun _=>?_) fun _=>?_|refine Ga3 ?_|refine Ga4 fun _=>?_|fail)
  exact bodyK.ret (Res.two Tryz.results153) hrow2
 ·have c2 : o.bytes ≠ [] := fun h => c1 (by rw [h]; rfl)
  rw [if_pos c2] at est
  repeat' (first|refine Ga0 fun _=>?_|refine Ga1 ?_|refine Ga2 (fun _=>?_) fun _=>?_|refine Ga3 ?_|refine Ga4 fun _=>?_|fail)
  refine bodyK.retD L (Res.two Tryz.results153) ?_
  rw [est]
  exact RowR.same (r := (m, false)) hm hr fun h => (by cases h)
end Go.Proofs.YtmnhooepaemlcaaGreat
