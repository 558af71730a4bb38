/- OrderCalls: true for every input; arguments as before. Part 12. Conditions: none. -/
import Derived.Test.YtmnhooepaemlcaaGreatOC2
import Derived.Test.YtmnhooepaemlcaaGreatOC3
import Derived.Test.YtmnhooepaemlcaaGreatOC11
set_option linter.all false
namespace Go.Proofs.YtmnhooepaemlcaaGreat
open Go Go.Pw Go.Pw.Sc Go.Pw.Md Go.Pw.Or
set_option maxRecDepth 100000
set_option maxHeartbeats 4000000
set_option synthInstance.maxHeartbeats 400000
set_option synthInstance.maxSize 2000
attribute [local irreducible] CW OW RW thenK blockK
attribute [local irreducible] scopeK loopK TRW ATW
@[reducible] def ptr (b : Nat) : Value := .pointer (some ⟨b, 0, none⟩)
@[reducible] def findV (b9 b5 b14 b13 b12 b15 : Nat) : Value := .func (.func 84) #[] #[ptr b9, ptr b5, ptr b14, ptr b13, ptr b12, ptr b15]
structure FEnv (l : List Td) (lv : Value) (b9 b5 b14 b13 b12 b15 bs bg : Nat) (G : Chunk) : Prop where
 s : InC G b9 (.cells #[ptr bs] 182 (0, 0))
 c : InC G b5 (.cells #[lv] 84 (0, 0))
 t : InC G b13 (.cells #[.func (.func 83) #[] #[ptr b9]] 161 (0, 0))
 g : InC G b12 (.cells #[.map (some bg)] 185 (0, 0))
 f : InC G b15 (.cells #[findV b9 b5 b14 b13 b12 b15] 190 (0, 0))
 l : LS 13 TdAt G lv l
theorem FEnv.to {l : List Td} {lv : Value} {b9 b5 b14 b13 b12 b15 bs bg : Nat} {G G' : Chunk} (h : FEnv l lv b9 b5 b14 b13 b12 b15 bs bg G) [hm : MemC G G'] : FEnv l lv b9 b5 b14 b13 b12 b15 bs bg G' :=
 ⟨⟨hm.out _ h.s.out⟩, ⟨hm.out _ h.c.out⟩, ⟨hm.out _ h.t.out⟩, ⟨hm.out _ h.g.out⟩, ⟨hm.out _ h.f.out⟩, LS.to h.l (fun c a h => TdAt.to c a h)⟩
@[reducible] def FSt (bs bc b14 bg : Nat) (lv ov : Value) (es : List MapEntry) (c : Nat) (fv : Value) (gs : List MapEntry) (gc : Nat) (N Q F G : Chunk) : Chunk :=
 (bs, sCell lv bc ov) :: (bc, .map (List.toArray es) c) :: (N ++ ((b14, .cells #[fv] 35 (0, 0)) :: (bg, .map (List.toArray gs) gc) :: (Q ++ (F ++ G))))
theorem fst_F {bs bc b14 bg : Nat} {lv ov : Value} {es : List MapEntry} {c : Nat} {fv : Value} {gs : List MapEntry} {gc : Nat} {N Q F G : Chunk} (P : Chunk) : (P ++ FSt bs bc b14 bg lv ov es c fv gs gc N Q F G).Perm (FSt bs bc b14 bg lv ov es c fv gs gc N Q (P ++ F) G) := by
 have h := List.perm_append_comm_assoc P ((bs, sCell lv bc ov) :: (bc, .map (List.toArray es) c) :: (N ++ ((b14, .cells #[fv] 35 (0, 0)) :: (bg, .map (List.toArray gs) gc) :: Q))) (F ++ G)
 simpa only [FSt, List.append_assoc, List.cons_append] using h
theorem fst_G {bs bc b14 bg : Nat} {lv ov : Value} {es : List MapEntry} {c : Nat} {fv : Value} {gs : List MapEntry} {gc : Nat} {N Q F G : Chunk} (A P : Chunk) : (A ++ (P ++ FSt bs bc b14 bg lv ov es c fv gs gc N Q F G)).Perm (P ++ FSt bs bc b14 bg lv ov es c fv gs gc N Q F (A ++ G)) := by
 have h := List.perm_append_comm_assoc A (P ++ ((bs, sCell lv bc ov) :: (bc, .map (List.toArray es) c) :: (N ++ ((b14, .cells #[fv] 35 (0, 0)) :: (bg, .map (List.toArray gs) gc) :: (Q ++ F))))) G
 simpa only [FSt, List.append_assoc, List.cons_append] using h
theorem GQ_mid (A B : List GEnt) (z : GEnt) : GQ (A ++ z :: B) = GQ A ++ (z.N ++ GQ B) := by simp [GQ]
theorem GQ_snoc (A : List GEnt) (z : GEnt) : GQ (A ++ [z]) = GQ A ++ z.N := by simp [GQ]
theorem tot_mid (A B : List GEnt) (z : GEnt) : tot (A ++ z :: B) = tot A + (z.ps.length + tot B) := by simp [tot]
theorem gone_look {l : List Td} {G : Chunk} {gs : List MapEntry} {gc : Nat} {zs : List GEnt} (h : GoneOk l G gs gc zs) (s : Nat) : ∃ gv ps xs, (findI gs (s : Int)).getD (.slice none 0 0) = gv ∧ Rd (GQ zs) 1 gv ps.length ps ∧ GL G ps xs ∧ (∀ x ∈ xs, NoWay l s x) ∧ ps.length ≤ tot zs := by
 cases hf : findI gs (s : Int) with
 | none => exact ⟨_, [], [], rfl, ⟨rfl, .inl ⟨⟨_, _, rfl⟩, rfl⟩⟩, ⟨rfl, fun i h => (by cases h)⟩, fun _ h => (by cases h), Nat.zero_le _⟩
 | some v =>
  obtain ⟨A, z, B, rfl, hv, hn, _⟩ := gone_some h hf
  have hz := h.z z (by simp)
  refine ⟨v, z.ps, z.xs, rfl, ?_, hz.gl, hn, by rw [tot_mid]; omega⟩
  rw [← hv, GQ_mid]
  exact hz.row.rd.mono fun q hq => by simp [hq]
theorem oFind22 (b15 b11 b8 bn : Nat) (fV : Value) (sf : Sng fV) (L : Chunk) (Φ : Bool → Chunk → Prop) (Ψ : Chunk → Prop) [h1 : InC L b15 (.cells #[fV] 190 (0, 0))] [h2 : InC L b11 (.cells #[ptr bn] 51 (0, 0))]
  (h : VP Tryz.prog fV [ptr bn] L (fun u L' => ∃ q, u = .bool q ∧ Φ q L') noPanic) (hΦ : ∀ q L', Φ q L' → ∃ L2, InC L' b8 (.cells #[.bool false] 4 (0, 0)) ∧ UpdC L' b8 (.cells #[.bool q] 4 (0, 0)) L2 ∧ Ψ L2) :
  Fn1 Tryz.prog 90 [ptr b15, ptr b11, ptr b8] L (fun _ L' => Ψ L') := by
 intro w0; refine Spec.enter3 Tryz.func90 rfl Tryz.ntmps90 (by decide) ?_
 repeat' (first|refine Ga0 fun _=>?_|refine Ga1 ?_|refine Ga2 (fun _=>?_) fun _=>?_|refine Ga3 ?_|fail)
 refine OW.callV1 h ?_
 rintro _ L' ⟨q, rfl, hq⟩
 obtain ⟨L2, i1, i2, hψ⟩ := hΦ q L' hq
 repeat' (first|refine Ga0 fun _=>?_|refine Ga1 ?_|refine Ga2 (fun _=>?_) fun _=>?_|refine Ga3 ?_|fail)
 exact bodyK.nrm (Res.zero Tryz.results90) hψ
theorem oDo (bm bp : Nat) (m : Mod) (hwf : WF m) (x : Td) (hx : TdR x) (vx vb : Value) (D L : Chunk) {C : Chunk → Chunk} [hat : At L [(bm, .cells (mcells m bp).toArray 142 (0, 0))] C] (hvx : BS L vx x.op.bytes) (hb : BS L vb x.out.bytes) (hD : ∀ q ∈ D, q ∈ C []) (hr : MRest D bp m) :
  Fn1 Tryz.prog 20 [ptr bm, .agg #[.int .i64 x.op.kind, .int .u32 x.op.ad, .int .u64 x.op.size, .int .u64 x.op.mult, .int .u64 x.op.many, vx], .agg #[.int .i64 x.out.errno, .int .u32 x.out.ad, .int .i64 x.out.n, vb]] L
   (fun u L' => ∃ N b2, u = .tuple #[.bool (Md.next m x.op x.out).2, .int .i64 (nextE x.op)] ∧ L' = N ++ C [(bm, .cells (mcells (after m x.op x.out) b2).toArray 142 (0, 0))] ∧ MRest (N ++ D) b2 (after m x.op x.out)) :=
 modelDo bm bp m hwf x.op ⟨hx.op.kind, hx.op.ad, hx.op.size, hx.op.mult, hx.op.many⟩ x.out vx vb D L hvx (hD := ⟨hD⟩) hr hb ⟨hx.out.errno, hx.out.ad, hx.out.n⟩
theorem srch_full {l : List Td} {f : Nat} {m : Mod} {o : List Nat} (h : o.length = l.length) : srch l (f + 1) m o = some o := by rw [srch, if_pos h]
theorem srch_go {l : List Td} {f : Nat} {m : Mod} {o : List Nat} (h : ¬ o.length = l.length) : srch l (f + 1) m o = (List.range l.length).findSome? fun i => if freeP l o i && mayP l m i then srch l f (nextP l m i) (o ++ [i]) else none := by rw [srch, if_neg h]
theorem some_step {β : Type} (g : Nat → Option β) (i : Nat) : (List.range (i + 1)).findSome? g = ((List.range i).findSome? g).or (g i) := by
 rw [List.range_succ, List.findSome?_append]
 simp
theorem some_at {β : Type} (g : Nat → Option β) {i n : Nat} {r : β} (hi : i < n) (h : (List.range i).findSome? g = none) (hg : g i = some r) : (List.range n).findSome? g = some r := by
 obtain ⟨d, rfl⟩ : ∃ d, n = i + 1 + d := ⟨n - (i + 1), by omega⟩
 induction d with
 | zero => rw [Nat.add_zero, some_step, h, hg]; rfl
 | succ d ih => rw [show i + 1 + (d + 1) = (i + 1 + d) + 1 by omega, some_step, ih (by omega)]; rfl
instance subF {x y : Nat × Obj} {F G : Chunk} : SubC (F ++ G) (([x, y] ++ F) ++ G) := ⟨List.Sublist.append (List.sublist_append_right _ _) (List.Sublist.refl _)⟩
theorem oFind2 (l : List Td) (lv : Value) (b9 b5 b14 b13 b12 b15 bs bc bg : Nat) (hn : l.length ≤ 10) : ∀ (f : Nat) (o : List Nat) (m : Mod) (bm bp : Nat) (ov : Value) (es : List MapEntry) (c : Nat) (N : Chunk) (fv : Value) (gs : List MapEntry) (gc : Nat) (zs : List GEnt) (F G : Chunk),
  FEnv l lv b9 b5 b14 b13 b12 b15 bs bg G → CM es c o → RowG 3 1 N ov o.length (inN o) → o.Nodup → (∀ k ∈ o, k < l.length) → GoneOk l G gs gc zs → InC G bm (.cells (mcells m bp).toArray 142 (0, 0)) → MRest G bp m → WF m →
  o.length ≤ l.length → f = l.length + 1 - o.length → tot zs + Tb l.length f ≤ 1000000000000 → Sng fv →
  Fn1 Tryz.prog 84 [ptr bm, ptr b9, ptr b5, ptr b14, ptr b13, ptr b12, ptr b15] (FSt bs bc b14 bg lv ov es c fv gs gc N (GQ zs) F G)
   (fun u L' => ∃ es' c' ov' N' fv' gs' gc' zs' G2, CM es' c' o ∧ RowG 3 1 N' ov' o.length (inN o) ∧ GoneOk l (G2 ++ G) gs' gc' zs' ∧ tot zs' ≤ tot zs + Tb l.length f ∧ L' = FSt bs bc b14 bg lv ov' es' c' fv' gs' gc' N' (GQ zs') F (G2 ++ G) ∧
    (match srch l f m o with | none => u = .bool false ∧ fv' = fv | some r => u = .bool true ∧ Rd G2 1 fv' r.length (inN r)))
 | 0, o, m, bm, bp, ov, es, c, N, fv, gs, gc, zs, F, G => fun _ _ _ _ _ _ _ _ _ h1 h2 => by omega
 | f + 1, o, m, bm, bp, ov, es, c, N, fv, gs, gc, zs, F, G => by
  intro hE hc hrow hnd hlt hg hbm hmr hwf hol hf htot sfv
  have hIH := oFind2 l lv b9 b5 b14 b13 b12 b15 bs bc bg hn f
  obtain ⟨oa, oc, hov, _⟩ := hrow.rd.isSlice
  have sov : Sng ov := by rw [hov]; infer_instance
  have slv := hE.l.sng
  obtain ⟨la, lc, hlv⟩ := hE.l.slice
  have i9 := hE.s
  have i5 := hE.c
  have i13 := hE.t
  have i12 := hE.g
  have i15 := hE.f
  have hlen := hE.l.len
  intro w0; refine Spec.enter7 Tryz.func84 rfl Tryz.ntmps84 (by decide) ?_
  have z1:DrP 1 [0,1,2,3,4,5,6,7]:=⟨⟨⟩⟩
  subst hlv
  subst hov
  by_cases hfull : o.length = l.length
  ·have hfi : (o.length : Int) = l.length := by omega
   repeat' (first|refine Gi0 fun _=>?_|refine Gi1 ?_|refine Gi2 (fun _=>?_) fun _=>?_|refine Gi3 ?_|refine Gi4 fun _=>?_|fail)
   rename_i b7 b8
   refine OW.call (cloneI _ (o.map fun (k : Nat) => (k : Int)) _ (by
    have h := hrow.rd
    rw [List.length_map]
    have e : iv (o.map fun (k : Nat) => (k : Int)) = inN o := by simp [iv]
    rw [e]
    exact h.mono fun q hq => by simp [FSt, hq]) (by rw [List.length_map]; omega)) ?_
   rintro u _ ⟨N1, rfl, hr1⟩
   have su := hr1.sng
   rw [List.length_map, show iv (o.map fun (k : Nat) => (k : Int)) = inN o by simp [iv]] at hr1
   refine OW.perm (fst_G N1 [(b8, .cells #[.bool false] 4 (0, 0)), (b7, .cells #[ptr bm] 51 (0, 0))]) ?_
   repeat' (first|refine Gi0 fun _=>?_|refine Gi1 ?_|refine Gi2 (fun _=>?_) fun _=>?_|refine Gi3 ?_|refine Gi4 fun _=>?_|fail)
   refine bodyK.retD (FSt bs bc b14 bg _ _ es c u gs gc N (GQ zs) F (N1 ++ G)) (hs := ⟨.cons _ (.cons _ (List.Sublist.refl _))⟩) (Res.of1 Tryz.results84) ⟨es, c, _, N, u, gs, gc, zs, N1, hc, hrow, hg.to, by omega, rfl, ?_⟩
   rw [srch_full hfull]
   exact ⟨rfl, hr1.rd⟩
  ·have hfi : ¬ (o.length : Int) = l.length := by omega
   have hk16 : ∀ k ∈ o, k < 16 := fun k hk => by have := hlt k hk; omega
   obtain ⟨gv, ps, xs, hgv, hgr, hgl, hgn, hgt⟩ := gone_look hg (setI o)
   obtain ⟨ga, gcap, hgs, _⟩ := hgr.isSlice
   have sgv : Sng gv := by rw [hgs]; infer_instance
   repeat' (first|refine Gi0 fun _=>?_|refine Gi1 ?_|refine Gi2 (fun _=>?_) fun _=>?_|refine Gi3 ?_|refine Gi4 fun _=>?_|fail)
   rename_i b7 b8
   refine OW.callV1 (FnP.vp (first := #[]) (cap := #[ptr b9]) (oSet b9 bs bc _ _ es c o _ hc hk16)) ?_
   rintro _ _ ⟨rfl, rfl⟩
   repeat' (first|refine Gi0 fun _=>?_|refine Gi1 ?_|refine Gi2 (fun _=>?_) fun _=>?_|refine Gi3 ?_|refine Gi4 fun _=>?_|fail)
   refine OW.lookD (m := bg) (c := gc) (es := gs) (v := gv) hg.kv.keys hgv ?_
   repeat' (first|refine Gi0 fun _=>?_|refine Gi1 ?_|refine Gi2 (fun _=>?_) fun _=>?_|refine Gi3 ?_|refine Gi4 fun _=>?_|fail)
   refine OW.call (oContainsM gv _ ps xs m ii G _ (hgr.mono fun q hq => by simp [FSt, hq]) hgl (by omega) (fun x p hx => FnP.vp (first := #[]) (cap := #[ptr b7]) (oSame1 b7 bm bp x m p G _ hmr hwf hx))) ?_
   rintro _ _ ⟨⟨q, rfl, hq⟩, rfl⟩
   cases q with
   | true =>
    have hnone := hgn m (hq.1 rfl) o hnd rfl
    rw [← hf] at hnone
    repeat' (first|refine Gi0 fun _=>?_|refine Gi1 ?_|refine Gi2 (fun _=>?_) fun _=>?_|refine Gi3 ?_|refine Gi4 fun _=>?_|fail)
    refine bodyK.retD (FSt bs bc b14 bg _ _ es c fv gs gc N (GQ zs) F G) (hs := ⟨.cons _ (.cons _ (List.Sublist.refl _))⟩) (Res.of1 Tryz.results84) ⟨es, c, _, N, fv, gs, gc, zs, [], hc, hrow, hg, by omega, rfl, ?_⟩
    rw [hnone]
    exact ⟨rfl, rfl⟩
   | false =>
    have hnot : m ∉ xs := fun h => by have := hq.2 h; cases this
    repeat' (first|refine Gi0 fun _=>?_|refine Gi1 ?_|refine Gi2 (fun _=>?_) fun _=>?_|refine Gi3 ?_|refine Gi4 fun _=>?_|fail)
    refine CW.perm (fst_F [(b8, .cells #[.bool false] 4 (0, 0)), (b7, .cells #[ptr bm] 51 (0, 0))]) ?_
    generalize hg0 : (fun i => if freeP l o i && mayP l m i then srch l f (nextP l m i) (o ++ [i]) else none) = g0
    refine CW.count l.length (fun i ρ ds L' => ds = [] ∧ (∃ (X : Chunk) (es' : List MapEntry) (c' : Nat) (ov' : Value) (N' : Chunk) (gs' : List MapEntry) (gc' : Nat) (zs' : List GEnt) (G2 : Chunk), CM es' c' o ∧ RowG 3 1 N' ov' o.length (inN o) ∧ GoneOk l (G2 ++ G) gs' gc' zs' ∧ tot zs' ≤ tot zs + i * Tb l.length f ∧
       L' = X ++ FSt bs bc b14 bg (.slice la l.length lc) ov' es' c' fv gs' gc' N' (GQ zs') ([(b8, .cells #[.bool false] 4 (0, 0)), (b7, .cells #[ptr bm] 51 (0, 0))] ++ F) (G2 ++ G)) ∧
      (List.range i).findSome? g0 = none ∧ Ev ρ 1 (ptr b9) ∧ Ev ρ 2 (ptr b5) ∧ Ev ρ 5 (ptr b12) ∧ Ev ρ 6 (ptr b15) ∧ Ev ρ 7 (ptr b7) ∧ Ev ρ 8 (ptr b8) ∧ Ev ρ 9 (.int .i64 (setI o : Nat)) ∧ Ev ρ 35 (.int .i64 (l.length : Int)) ∧ Ev ρ 36 (.int .i64 (i : Int)))
     ⟨rfl, ⟨[], es, c, _, N, gs, gc, zs, [], hc, hrow, hg, by omega, rfl⟩, rfl, ii, ii, ii, ii, ii, ii, ii, ii, ii⟩ ?_
    clear hgv hgr hgl hgn hgt hgs hq hnot
    rintro i ρ ds L' hi ⟨rfl, ⟨X, es', c', ov', N', gs', gc', zs', G2, hc', hrow', hg', ht', rfl⟩, hfs, e1, e2, e5, e6, e7, e8, e9, e35, e36⟩
    obtain ⟨oa', oc', hov', _⟩ := hrow'.rd.isSlice
    have sov' : Sng ov' := by rw [hov']; infer_instance
    by_cases hlt' : i < l.length
    ·obtain ⟨bk, kk, capk, lk, ek, frk, hbe, hbin, hbc, hbn⟩ := hE.l.open (by omega)
     cases hbe
     obtain ⟨cc, hcut, vx, vb, rfl, hvx, hvb, htr⟩ := hbn i hlt'
     have q1 := hvx.sng
     have q2 := hvb.sng
     have hlti : (i : Int) < l.length := by omega
     have hmay : mayP l m i = (Md.next m l[i].op l[i].out).2 := by unfold mayP; rw [List.getElem?_eq_getElem hlt']
     have hnext : nextP l m i = after m l[i].op l[i].out := by unfold nextP; rw [List.getElem?_eq_getElem hlt']
     have hgi : g0 i = if freeP l o i && mayP l m i then srch l f (nextP l m i) (o ++ [i]) else none := by rw [← hg0]
     have hfree := fun D L h1 h2 h3 h4 h5 h6 => oFree bs bc (.slice (some ⟨bk, kk, none⟩) l.length lc) ov' l es' c' o i hlt' D L (hD := h1) (h1 := h2) (h2 := h3) h4 h5 h6 hc'
     have hlE := hE.l
     clear hbn
     generalize l[i] = x at *
     repeat' (first|refine Gi0 fun _=>?_|refine Gi1 ?_|refine Gi2 (fun _=>?_) fun _=>?_|refine Gi3 ?_|refine Gi4 fun _=>?_|fail)
     refine OW.call (modelCopy bm bp m G _ hmr) ?_
     rintro _ _ ⟨bn, b, N1, rfl, rfl, hmr1⟩
     repeat' (first|refine Gi0 fun _=>?_|refine Gi1 ?_|refine Gi2 (fun _=>?_) fun _=>?_|refine Gi3 ?_|refine Gi4 fun _=>?_|fail)
     rename_i b11
     have hR0 : ∀ L1 : Chunk, (b11, Obj.cells #[ptr bn] 51 (0, 0)) ∈ L1 → (∀ q ∈ G, q ∈ L1) → ∀ p ∈ [(b11, Obj.cells #[ptr bn] 51 (0, 0)), (b5, .cells #[.slice (some ⟨bk, kk, none⟩) l.length lc] 84 (0, 0)), (bk, .cells lk.toArray ek frk)], p ∈ L1 := fun L1 h1 h2 p hp => by
      simp only [List.mem_cons, List.not_mem_nil, or_false] at hp
      rcases hp with rfl | rfl | rfl
      ·exact h1
      ·exact h2 _ i5.out
      ·exact h2 _ hbin.out
     have hRL : MemC [(b11, Obj.cells #[ptr bn] 51 (0, 0)), (b5, .cells #[.slice (some ⟨bk, kk, none⟩) l.length lc] 84 (0, 0)), (bk, .cells lk.toArray ek frk)] ((b11, Obj.cells #[ptr bn] 51 (0, 0)) :: (bn, .cells (mcells m b).toArray 142 (0, 0)) :: (N1 ++ (X ++ FSt bs bc b14 bg (.slice (some ⟨bk, kk, none⟩) l.length lc) ov' es' c' fv gs' gc' N' (GQ zs') ([(b8, .cells #[.bool false] 4 (0, 0)), (b7, .cells #[ptr bm] 51 (0, 0))] ++ F) (G2 ++ G)))) :=
      ⟨hR0 _ (List.mem_cons_self ..) fun q hq => by simp [FSt, hq]⟩
     have hc1 : CutL lk (kk + i * 13 + 1) 6 [.int .i64 x.op.kind, .int .u32 x.op.ad, .int .u64 x.op.size, .int .u64 x.op.mult, .int .u64 x.op.many, vx] := cutSub hcut 1 6 (by decide)
     have hc7 : CutL lk (kk + i * 13 + 7) 4 [.int .i64 x.out.errno, .int .u32 x.out.ad, .int .i64 x.out.n, vb] := cutSub hcut 7 4 (by decide)
     refine CW.drawsR [(b11, Obj.cells #[ptr bn] 51 (0, 0)), (b5, .cells #[.slice (some ⟨bk, kk, none⟩) l.length lc] 84 (0, 0)), (bk, .cells lk.toArray ek frk)] [0, 1, 2, 3, 4, 5, 6, 7, 8, 9, 10, 11, 12, 13, 14, 15, 16] mixed (by kernel_rfl) ?_
     repeat' (first|refine Gi0 fun _=>?_|refine Gi1 ?_|refine Gi2 (fun _=>?_) fun _=>?_|refine Gi3 ?_|refine Gi4 fun _=>?_|fail)
     refine RW.call (oDo bn b m hwf x htr vx vb (N1 ++ G) _ hvx.to hvb.to ?_ hmr1) ?_
     ·intro q hq
      rcases List.mem_append.1 hq with hq | hq <;> simp [FSt, hq]
     rintro _ _ ⟨N2, b2, rfl, rfl, hmr2⟩
     refine ⟨_, fun _ h => h, hR0 _ (by simp) (fun q hq => by simp [FSt, hq]), ?_⟩
     repeat' (first|refine Gi0 fun _=>?_|refine Gi1 ?_|refine Gi2 (fun _=>?_) fun _=>?_|refine Gi3 ?_|refine Gi4 fun _=>?_|fail)
     have hno : (freeP l o i && mayP l m i) = false → (List.range (i + 1)).findSome? g0 = none := fun h => by rw [some_step, hfs, hgi, h]; rfl
     have hti : tot zs' ≤ tot zs + (i + 1) * Tb l.length f := by rw [Nat.add_mul]; omega
     have hag : N2 ++ ((b11, Obj.cells #[ptr bn] 51 (0, 0)) :: (bn, .cells (mcells (after m x.op x.out) b2).toArray 142 (0, 0)) :: (N1 ++ (X ++ FSt bs bc b14 bg (.slice (some ⟨bk, kk, none⟩) l.length lc) ov' es' c' fv gs' gc' N' (GQ zs') ([(b8, .cells #[.bool false] 4 (0, 0)), (b7, .cells #[ptr bm] 51 (0, 0))] ++ F) (G2 ++ G)))) = (N2 ++ ((b11, Obj.cells #[ptr bn] 51 (0, 0)) :: (bn, .cells (mcells (after m x.op x.out) b2).toArray 142 (0, 0)) :: (N1 ++ X))) ++ FSt bs bc b14 bg (.slice (some ⟨bk, kk, none⟩) l.length lc) ov' es' c' fv gs' gc' N' (GQ zs') ([(b8, .cells #[.bool false] 4 (0, 0)), (b7, .cells #[ptr bm] 51 (0, 0))] ++ F) (G2 ++ G) := by simp
     refine OW.call (hfree G _ ii ii ii ii hlE (by omega)) ?_
     rintro _ _ ⟨rfl, rfl⟩
     cases hfr : freeP l o i with
     | false =>
      repeat' (first|refine Gi0 fun _=>?_|refine Gi1 ?_|refine Gi2 (fun _=>?_) fun _=>?_|refine Gi3 ?_|refine Gi4 fun _=>?_|fail)
      exact ⟨hlt', rfl, ⟨_, es', c', ov', N', gs', gc', zs', G2, hc', hrow', hg', hti, hag⟩, hno (by rw [hfr]; rfl), ii, ii, ii, ii, ii, ii, ii, ii, by rw [Int.natCast_add]; infer_instance⟩
     | true =>
      cases hmm : (Md.next m x.op x.out).2 with
      | false =>
       repeat' (first|refine Gi0 fun _=>?_|refine Gi1 ?_|refine Gi2 (fun _=>?_) fun _=>?_|refine Gi3 ?_|refine Gi4 fun _=>?_|fail)
       exact ⟨hlt', rfl, ⟨_, es', c', ov', N', gs', gc', zs', G2, hc', hrow', hg', hti, hag⟩, hno (by rw [hfr, hmay, hmm]; rfl), ii, ii, ii, ii, ii, ii, ii, ii, by rw [Int.natCast_add]; infer_instance⟩
      | true =>
       have hoi : o.contains i = false := by
        have hf1 := hfr
        unfold freeP at hf1
        rw [List.getElem?_eq_getElem hlt'] at hf1
        simp only [Bool.and_eq_true, Bool.not_eq_true'] at hf1
        exact hf1.1
       have hni : i ∉ o := fun h => by rw [show o.contains i = true by simpa using h] at hoi; cases hoi
       have hwf2 : WF (after m x.op x.out) := after_wf hwf htr.out.ad.1 (fun z hz => by have := hvx.byt z hz; omega) (fun z hz => by have := hvb.byt z hz; omega)
       have hg1 : g0 i = srch l f (after m x.op x.out) (o ++ [i]) := by rw [hgi, hfr, hmay, hmm, hnext]; rfl
       have hnd2 : (o ++ [i]).Nodup := by
        rw [List.nodup_append]
        exact ⟨hnd, by simp, fun a ha b hb => by rw [List.mem_singleton.1 hb]; exact fun e => hni (e ▸ ha)⟩
       have hlt2 : ∀ k ∈ o ++ [i], k < l.length := fun k hk => by
        rcases List.mem_append.1 hk with hk | hk
        ·exact hlt k hk
        ·rw [List.mem_singleton.1 hk]; exact hlt'
       have hlen2 : (o ++ [i]).length = o.length + 1 := by simp
       have hTb : Tb l.length (f + 1) = l.length * Tb l.length f + 1 := rfl
       have hmul : (i + 1) * Tb l.length f ≤ l.length * Tb l.length f := Nat.mul_le_mul_right _ hlt'
       rw [Nat.add_mul] at hmul
       clear hfree hgi hno
       repeat' (first|refine Gi0 fun _=>?_|refine Gi1 ?_|refine Gi2 (fun _=>?_) fun _=>?_|refine Gi3 ?_|refine Gi4 fun _=>?_|fail)
       refine OW.perm ((List.Perm.of_eq hag).trans (fst_G (N2 ++ ((b11, Obj.cells #[ptr bn] 51 (0, 0)) :: (bn, .cells (mcells (after m x.op x.out) b2).toArray 142 (0, 0)) :: (N1 ++ X))) [])) ?_
       rw [List.nil_append]
       generalize hG' : (N2 ++ ((b11, Obj.cells #[ptr bn] 51 (0, 0)) :: (bn, .cells (mcells (after m x.op x.out) b2).toArray 142 (0, 0)) :: (N1 ++ X))) ++ (G2 ++ G) = G'
       have mG : MemC G G' := ⟨fun q hq => by rw [← hG']; simp [hq]⟩
       have mG2 : MemC (G2 ++ G) G' := ⟨fun q hq => by rw [← hG']; exact List.mem_append_right _ hq⟩
       have mN : MemC (N2 ++ (N1 ++ G)) G' := ⟨fun q hq => by
        rw [← hG']
        rcases List.mem_append.1 hq with hq | hq
        ·simp [hq]
        ·rcases List.mem_append.1 hq with hq | hq <;> simp [hq]⟩
       have i11 : InC G' b11 (.cells #[ptr bn] 51 (0, 0)) := ⟨by rw [← hG']; simp⟩
       have ibn : InC G' bn (.cells (mcells (after m x.op x.out) b2).toArray 142 (0, 0)) := ⟨by rw [← hG']; simp⟩
       have i15' : InC G' b15 (.cells #[findV b9 b5 b14 b13 b12 b15] 190 (0, 0)) := ⟨mG.out _ i15.out⟩
       refine OW.call (oWith bs bc (.slice (some ⟨bk, kk, none⟩) l.length lc) ov' (.func (.func 90) #[] #[ptr b15, ptr b11, ptr b8]) es' c' o i N' ((b14, .cells #[fv] 35 (0, 0)) :: (bg, .map (List.toArray gs') gc') :: (GQ zs' ++ (([(b8, .cells #[.bool false] 4 (0, 0)), (b7, .cells #[ptr bm] 51 (0, 0))] ++ F) ++ G')))
        (fun Z2 => ∃ q fv2 gs2 gc2 zs2 G3, GoneOk l (G3 ++ G') gs2 gc2 zs2 ∧ tot zs2 ≤ tot zs' + Tb l.length f ∧ Z2 = (b14, .cells #[fv2] 35 (0, 0)) :: (bg, .map (List.toArray gs2) gc2) :: (GQ zs2 ++ (([(b8, .cells #[.bool q] 4 (0, 0)), (b7, .cells #[ptr bm] 51 (0, 0))] ++ F) ++ (G3 ++ G'))) ∧
         (match srch l f (after m x.op x.out) (o ++ [i]) with | none => q = false ∧ fv2 = fv | some r => q = true ∧ Rd G3 1 fv2 r.length (inN r))) ii ii hrow' hc' hoi (by omega) ?_) ?_
       ·intro esA cA ovA NA hcA hrowA
        refine FnP.vp (first := #[]) (cap := #[ptr b15, ptr b11, ptr b8]) (oFind22 b15 b11 b8 bn (findV b9 b5 b14 b13 b12 b15) ii _
         (fun q L' => ∃ es2 c2 ov2 N3 fv2 gs2 gc2 zs2 G3, CM es2 c2 (o ++ [i]) ∧ RowG 3 1 N3 ov2 (o ++ [i]).length (inN (o ++ [i])) ∧ GoneOk l (G3 ++ G') gs2 gc2 zs2 ∧ tot zs2 ≤ tot zs' + Tb l.length f ∧ L' = FSt bs bc b14 bg (.slice (some ⟨bk, kk, none⟩) l.length lc) ov2 es2 c2 fv2 gs2 gc2 N3 (GQ zs2) ([(b8, .cells #[.bool false] 4 (0, 0)), (b7, .cells #[ptr bm] 51 (0, 0))] ++ F) (G3 ++ G') ∧
          (match srch l f (after m x.op x.out) (o ++ [i]) with | none => q = false ∧ fv2 = fv | some r => q = true ∧ Rd G3 1 fv2 r.length (inN r)))
         _ ((FnP.vp (first := #[]) (cap := #[ptr b9, ptr b5, ptr b14, ptr b13, ptr b12, ptr b15]) (hIH (o ++ [i]) (after m x.op x.out) bn b2 ovA esA cA NA fv gs' gc' zs' ([(b8, .cells #[.bool false] 4 (0, 0)), (b7, .cells #[ptr bm] 51 (0, 0))] ++ F) G' hE.to hcA hrowA hnd2 hlt2 hg'.to ibn hmr2.to hwf2 (by omega) (by omega) (by omega) sfv)).mono ?_ (fun _ _ h => h)) ?_)
        ·rintro u _ ⟨es2, c2, ov2, N3, fv2, gs2, gc2, zs2, G3, h1, h2, h3, h4, rfl, h5⟩
         cases hs : srch l f (after m x.op x.out) (o ++ [i]) with
         | none =>
          rw [hs] at h5
          obtain ⟨rfl, rfl⟩ := h5
          exact ⟨false, rfl, es2, c2, ov2, N3, _, gs2, gc2, zs2, G3, h1, h2, h3, h4, rfl, rfl, rfl⟩
         | some r =>
          rw [hs] at h5
          obtain ⟨rfl, h5⟩ := h5
          exact ⟨true, rfl, es2, c2, ov2, N3, _, gs2, gc2, zs2, G3, h1, h2, h3, h4, rfl, rfl, h5⟩
        ·rintro q _ ⟨es2, c2, ov2, N3, fv2, gs2, gc2, zs2, G3, h1, h2, h3, h4, rfl, h5⟩
         exact ⟨_, ii, ii, es2, c2, ov2, N3, _, h1, h2, rfl, q, fv2, gs2, gc2, zs2, G3, h3, h4, rfl, h5⟩
       rintro _ _ ⟨es2, c2, ov2, N3, _, hc2, hrow2, rfl, q, fv2, gs2, gc2, zs2, G3, hg2, ht2, rfl, hq⟩
       obtain ⟨oa2, oc2, hov2, _⟩ := hrow2.rd.isSlice
       have sov2 : Sng ov2 := by rw [hov2]; infer_instance
       cases hs : srch l f (after m x.op x.out) (o ++ [i]) with
       | none =>
        rw [hs] at hq
        obtain ⟨rfl, rfl⟩ := hq
        subst hG'
        have hg3 : GoneOk l ((G3 ++ ((N2 ++ ((b11, Obj.cells #[ptr bn] 51 (0, 0)) :: (bn, .cells (mcells (after m x.op x.out) b2).toArray 142 (0, 0)) :: (N1 ++ X))) ++ G2)) ++ G) gs2 gc2 zs2 := by
         have e : (G3 ++ ((N2 ++ ((b11, Obj.cells #[ptr bn] 51 (0, 0)) :: (bn, .cells (mcells (after m x.op x.out) b2).toArray 142 (0, 0)) :: (N1 ++ X))) ++ G2)) ++ G = G3 ++ ((N2 ++ ((b11, Obj.cells #[ptr bn] 51 (0, 0)) :: (bn, .cells (mcells (after m x.op x.out) b2).toArray 142 (0, 0)) :: (N1 ++ X))) ++ (G2 ++ G)) := by simp
         rw [e]; exact hg2
        repeat' (first|refine Gi0 fun _=>?_|refine Gi1 ?_|refine Gi2 (fun _=>?_) fun _=>?_|refine Gi3 ?_|refine Gi4 fun _=>?_|fail)
        refine ⟨hlt', rfl, ⟨[], es2, c2, ov2, N3, gs2, gc2, zs2, (G3 ++ ((N2 ++ ((b11, Obj.cells #[ptr bn] 51 (0, 0)) :: (bn, .cells (mcells (after m x.op x.out) b2).toArray 142 (0, 0)) :: (N1 ++ X))) ++ G2)), hc2, hrow2, hg3, by rw [Nat.add_mul]; omega, by simp⟩, by rw [some_step, hfs, hg1, hs]; rfl, ii, ii, ii, ii, ii, ii, ii, ii, by rw [Int.natCast_add]; infer_instance⟩
       | some r =>
        rw [hs] at hq
        obtain ⟨rfl, hr⟩ := hq
        subst hG'
        have e : G3 ++ ((N2 ++ ((b11, Obj.cells #[ptr bn] 51 (0, 0)) :: (bn, .cells (mcells (after m x.op x.out) b2).toArray 142 (0, 0)) :: (N1 ++ X))) ++ (G2 ++ G)) = (G3 ++ ((N2 ++ ((b11, Obj.cells #[ptr bn] 51 (0, 0)) :: (bn, .cells (mcells (after m x.op x.out) b2).toArray 142 (0, 0)) :: (N1 ++ X))) ++ G2)) ++ G := by simp
        rw [e] at hg2 ⊢
        have sfv2 : Sng fv2 := hr.sng
        have hsome : srch l (f + 1) m o = some r := by rw [srch_go hfull, hg0]; exact some_at g0 hlt' hfs (by rw [hg1, hs])
        repeat' (first|refine Gi0 fun _=>?_|refine Gi1 ?_|refine Gi2 (fun _=>?_) fun _=>?_|refine Gi3 ?_|refine Gi4 fun _=>?_|fail)
        refine bodyK.retD (FSt bs bc b14 bg (.slice (some ⟨bk, kk, none⟩) l.length lc) ov2 es2 c2 fv2 gs2 gc2 N3 (GQ zs2) F ((G3 ++ ((N2 ++ ((b11, Obj.cells #[ptr bn] 51 (0, 0)) :: (bn, .cells (mcells (after m x.op x.out) b2).toArray 142 (0, 0)) :: (N1 ++ X))) ++ G2)) ++ G)) (Res.of1 Tryz.results84) ⟨es2, c2, ov2, N3, fv2, gs2, gc2, zs2, (G3 ++ ((N2 ++ ((b11, Obj.cells #[ptr bn] 51 (0, 0)) :: (bn, .cells (mcells (after m x.op x.out) b2).toArray 142 (0, 0)) :: (N1 ++ X))) ++ G2)), hc2, hrow2, hg2, by omega, rfl, ?_⟩
        rw [hsome]
        exact ⟨rfl, hr.mono fun q hq => List.mem_append_left _ hq⟩
    ·obtain rfl : i = l.length := by omega
     have hnn : srch l (f + 1) m o = none := by rw [srch_go hfull, hg0]; exact hfs
     repeat' (first|refine Gi0 fun _=>?_|refine Gi1 ?_|refine Gi2 (fun _=>?_) fun _=>?_|refine Gi3 ?_|refine Gi4 fun _=>?_|fail)
     obtain ⟨gv, ps, hgv, hgr, hfin⟩ : ∃ gv ps, (findI gs' (setI o : Nat)).getD (.slice none 0 0) = gv ∧ ps.length ≤ tot zs' ∧ ∃ A N0 B, GQ zs' = A ++ (N0 ++ B) ∧ Row 51 1 N0 gv ps.length ps ∧
       ∀ v' N1, Row 51 1 N1 v' (ps.length + 1) (ps ++ [ptr bm]) → ∃ zs2, GoneOk l (G2 ++ G) (putE .i64 (setI o : Nat) v' gs' gc').1 (putE .i64 (setI o : Nat) v' gs' gc').2 zs2 ∧ tot zs2 = tot zs' + 1 ∧ GQ zs2 = A ++ (N1 ++ B) := by
      have hge : GE (G2 ++ G) m (ptr bm) := ⟨bm, bp, rfl, ⟨List.mem_append_right _ hbm.out⟩, hmr.to, hwf⟩
      have hnw : NoWay l (setI o) m := noWay hnd (by rw [← hf]; exact hnn)
      cases hgf : findI gs' (setI o : Nat) with
      | none =>
       refine ⟨_, [], rfl, Nat.zero_le _, GQ zs', [], [], by simp, Row.nil _ _, fun v' N1 hr => ⟨_, gone_none hg' hgf hr hge hnw, by simp [tot], by rw [GQ_snoc]; simp⟩⟩
      | some v =>
       obtain ⟨A, z, B, rfl, hv, _, hnx⟩ := gone_some hg' hgf
       have hz := hg'.z z (by simp)
       refine ⟨v, z.ps, rfl, by rw [tot_mid]; omega, GQ A, z.N, GQ B, by rw [GQ_mid], by rw [← hv]; exact hz.row, fun v' N1 hr => ?_⟩
       obtain ⟨z', e1, e2, e3⟩ := hnx v' N1 (ptr bm) m hr hge hnw
       exact ⟨_, e3, by rw [tot_mid, tot_mid, e2, List.length_append]; simp; omega, by rw [GQ_mid, e1]⟩
     obtain ⟨QA, N0, QB, hQ, hrow0, hfin⟩ := hfin
     rw [hQ]
     have hps : tot zs' ≤ 1000000000000 := by
      have : Tb l.length (f + 1) = l.length * Tb l.length f + 1 := rfl
      omega
     have i7 : InC (X ++ FSt bs bc b14 bg (.slice la l.length lc) ov' es' c' fv gs' gc' N' (QA ++ (N0 ++ QB)) ([(b8, .cells #[.bool false] 4 (0, 0)), (b7, .cells #[ptr bm] 51 (0, 0))] ++ F) (G2 ++ G)) b7 (.cells #[ptr bm] 51 (0, 0)) := ⟨by simp [FSt]⟩
     have hsg : Sng gv := hrow0.sng
     refine CW.drawsE [(bg, .map (List.toArray gs') gc'), (b7, .cells #[ptr bm] 51 (0, 0)), (b12, .cells #[.map (some bg)] 185 (0, 0))] [0, 1, 2, 3, 4, 5, 6, 7] 8 mixed (by kernel_rfl) ?_
     repeat' (first|refine Gi0 fun _=>?_|refine Gi1 ?_|refine Gi2 (fun _=>?_) fun _=>?_|refine Gi3 ?_|refine Gi4 fun _=>?_|fail)
     refine RW.lookD (m := bg) (c := gc') (es := gs') (v := gv) hg'.kv.keys hgv ?_
     repeat' (first|refine Gi0 fun _=>?_|refine Gi1 ?_|refine Gi2 (fun _=>?_) fun _=>?_|refine Gi3 ?_|refine Gi4 fun _=>?_|fail)
     refine RW.aM (fun b76 => ?_)
     refine RW.append hrow0 ii (Rd.blk (n := 1) (l := [ptr bm]) rfl (Nat.le_refl _)) (fun v hv => by rw [List.mem_singleton.1 hv]; infer_instance) (by omega) (fun v' N1 hrow1 => ⟨_, fun _ h => h, fun p hp => ?_, ?_⟩)
     ·simp only [List.mem_cons, List.not_mem_nil, or_false] at hp
      have := i12.out
      rcases hp with rfl | rfl | rfl <;> simp [FSt, this]
     obtain ⟨zs2, hg2, ht2, hQ2⟩ := hfin v' N1 hrow1
     have sv' := hrow1.sng
     repeat' (first|refine Gi0 fun _=>?_|refine Gi1 ?_|refine Gi2 (fun _=>?_) fun _=>?_|refine Gi3 ?_|refine Gi4 fun _=>?_|fail)
     refine OW.mapPut (m := bg) (es := gs') (c := gc') (j := ((setI o : Nat) : Int)) (u := v') hg'.kv ?_
     repeat' (first|refine Gi0 fun _=>?_|refine Gi1 ?_|refine Gi2 (fun _=>?_) fun _=>?_|refine Gi3 ?_|refine Gi4 fun _=>?_|fail)
     refine bodyK.retD (FSt bs bc b14 bg (.slice la l.length lc) ov' es' c' fv (putE .i64 (setI o : Nat) v' gs' gc').1 (putE .i64 (setI o : Nat) v' gs' gc').2 N' (QA ++ (N1 ++ QB)) F (G2 ++ G)) (Res.of1 Tryz.results84) ⟨es', c', ov', N', fv, _, _, zs2, G2, hc', hrow', hg2, ?_, by rw [hQ2], ?_⟩
     ·have : Tb l.length (f + 1) = l.length * Tb l.length f + 1 := rfl
      omega
     ·rw [hnn]
      exact ⟨rfl, rfl⟩
end Go.Proofs.YtmnhooepaemlcaaGreat
