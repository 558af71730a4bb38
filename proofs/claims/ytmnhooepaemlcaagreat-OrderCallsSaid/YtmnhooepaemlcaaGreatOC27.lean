/- OrderCalls: true for every input; arguments as before. Part 27. Conditions: none. -/
import Derived.Test.YtmnhooepaemlcaaGreatOC2
import Derived.Test.YtmnhooepaemlcaaGreatOC3
import Derived.Test.YtmnhooepaemlcaaGreatOC26
set_option linter.all false
namespace Go.Proofs.YtmnhooepaemlcaaGreat
open Go Go.Pw Go.Pw.Sc Go.Pw.Md Go.Pw.Jd Go.Pw.Or
set_option maxRecDepth 100000
set_option maxHeartbeats 4000000
set_option synthInstance.maxHeartbeats 400000
set_option synthInstance.maxSize 2000
attribute [local irreducible] CW OW RW thenK blockK
attribute [local irreducible] scopeK loopK TRW ATW
theorem rows_take {W : List (Turn × Rp)} {i : Nat} (h : i < W.length) : rows (W.take (i + 1)) = rows (W.take i) ++ [⟨W[i].1, W[i].2, i, bnd (W.take i)⟩] ∧ bnd (W.take (i + 1)) = bindStep (bnd (W.take i)) W[i].1 W[i].2 := by
 have e : W.take (i + 1) = W.take i ++ [W[i]] := by rw [List.take_add_one, List.getElem?_eq_getElem h]; rfl
 rw [e, rows_snoc, bnd_snoc, List.length_take, Nat.min_eq_left (by omega)]
 exact ⟨rfl, rfl⟩
@[reducible] def b5C (x : Hd) : Obj := .cells #[.int .i64 x.1, .int .i64 x.2] 32 (0, 0)
structure OfI (x : Hd) (B : Bnd) (P : List Row) (op1 : Int → List Nat) (A1 : List Td) (L : Chunk) (bs : List MapEntry) (cb : Nat) (p : PBnd) (es : List MapEntry) (c : Nat) (zs : List OEnt) (N : Chunk) (av : Value) (xs : List Value) : Prop where
 kb : KV .i64 bs cb
 hb : HB bs p
 br : BRel x p B
 op : OpOk op1 es c zs
 row : Row 103 13 N av A1.length xs
 lat : LAt 13 (TdAt L) xs A1
@[reducible] def ofC (bb bo b5 : Nat) (x : Hd) (bs : List MapEntry) (cb : Nat) (es : List MapEntry) (c : Nat) (N Q L : Chunk) : Chunk := (bo, .map (List.toArray es) c) :: (bb, .map (List.toArray bs) cb) :: (N ++ (Q ++ ((b5, b5C x) :: L)))
theorem ocOf1 (vl vr : Value) (ts : List Turn) (rs : List Rp) (x : Hd) (L : Chunk) (hl : LS 13 TnAt L vl ts) (hr : LS 11 RpAt L vr rs) (hx : inR .i64 x.1 ∧ inR .i64 x.2) (hb : ts.length ≤ 4096) (hbt : ∀ t ∈ ts, t.obytes.length ≤ 300) (hbr : ∀ r ∈ rs, r.obytes.length ≤ 300) :
  Fn1 Tryz.prog 32 [vl, vr, hdV x] L (fun u L' => (askE ts rs x ≠ 0 ∧ u = .tuple #[.slice none 0 0, .int .i64 (askE ts rs x)] ∧ L' = L) ∨
   (askE ts rs x = 0 ∧ ∃ w N, u = .tuple #[w, .int .i64 0] ∧ L' = N ++ L ∧ LS 13 TdAt (N ++ L) w (ofR x (rows (ts.zip rs))))) := by
 have sl := hl.sng
 have sr := hr.sng
 intro w0; refine Spec.enter3 Tryz.func32 rfl Tryz.ntmps32 (by decide) ?_
 have z11:DrP 11 [0,1,2,3,4,5,6,7,8,9,10,11]:=⟨⟨⟩⟩; have z32:DrC 32 [] [0, 1, 2, 4, 5, 6, 3, 8] 9 [7, 10, 11, 12, 13]:=⟨⟨⟩⟩
 repeat' (first|refine Gi0 fun _=>?_|refine Gi1 ?_|refine Gi2 (fun _=>?_) fun _=>?_|refine Gi3 ?_|refine Gi4 fun _=>?_|fail)
 rename_i b5
 refine OW.call (ocAsked vl vr ts rs x _ (LS.to hl (fun c a h => TnAt.to c a h)) (LS.to hr (fun c a h => RpAt.to c a h)) hx hb) ?_
 rintro _ _ ⟨rfl, rfl⟩
 by_cases hask : askE ts rs x = 0
 ·rw [hask]
  have hlen : ts.length = rs.length := Classical.byContradiction fun h => by unfold askE at hask; rw [if_pos h] at hask; cases hask
  have hq : (quotaOf (rows (ts.zip rs)) x).2 = true := by
   unfold askE at hask
   rw [if_neg (by rw [hlen]; simp), if_neg (by omega)] at hask
   cases h : (quotaOf (rows (ts.zip rs)) x).2 with
   | true => rfl
   | false => rw [h] at hask; cases hask
  have hx0 : x ≠ (0, 0) := fun h => by
   unfold quotaOf at hq
   split at hq
   ·have := of_decide_eq_true hq
    rw [h] at this
    have := this.1
    simp at this
   ·cases hq
  obtain ⟨al, cl, hal⟩ := hl.slice
  obtain ⟨ar, cr, har⟩ := hr.slice
  subst hal har
  have hll : (ts.length : Int) ≤ 4096 := by omega
  have hsm := zip_small (x := x) hbt hbr
  clear hbt hbr
  generalize hW : ts.zip rs = W at *
  have hWl : W.length = ts.length := by rw [← hW, List.length_zip, ← hlen, Nat.min_self]
  repeat' (first|refine Gi0 fun _=>?_|refine Gi1 ?_|refine Gi2 (fun _=>?_) fun _=>?_|refine Gi3 ?_|refine Gi4 fun _=>?_|fail)
  rename_i bb bo
  refine CW.count ts.length (fun i ρ ds L' => ds = [] ∧ (∃ X bs cb p es c zs N av xs, OfI x (bnd (W.take i)) (rows (W.take i)) (opAt x (bnd (W.take i)) (rows (W.take i))) (allOf x (rows (W.take i))) L bs cb p es c zs N av xs ∧ L' = X ++ ofC bb bo b5 x bs cb es c N (OQ zs) L ∧ Ev ρ 11 av) ∧
    Ev ρ 0 (.slice al ts.length cl) ∧ Ev ρ 1 (.slice ar rs.length cr) ∧ Ev ρ 5 (ptr b5) ∧ Ev ρ 9 (.map (some bb)) ∧ Ev ρ 10 (.map (some bo)) ∧ Ev ρ 29 (.slice al ts.length cl) ∧ Ev ρ 30 (.int .i64 (ts.length : Int)) ∧ Ev ρ 31 (.int .i64 (i : Int))) ?_ ?_
  ·refine ⟨rfl, ⟨[], [], 0, fun _ => none, [], 0, [], [], .slice none 0 0, [], ⟨KV.nil _, HB.nil, fun n _ => Iff.rfl, OpOk.nil.congr (fun n => by unfold opAt; simp [openOf, rows]), Row.nil _ _, rfl⟩, ?_, ii⟩, ii, ii, ii, ii, ii, ii, ii, ii⟩
   rfl
  ·rintro i ρ ds L' hi ⟨rfl, ⟨X, bs, cb, p, es, c, zs, N, av, xs, hI, rfl, e11⟩, e0, e1, e5, e9, e10, e29, e30, e31⟩
   by_cases hlt : i < ts.length
   ·have hWi : i < W.length := by omega
    obtain ⟨hrt, hbt⟩ := rows_take hWi
    have hri : i < rs.length := by omega
    obtain ⟨bk, kk, capk, lk, ek, frk, hbe, hbin, hbc, hbn⟩ := hl.open (by omega)
    cases hbe
    obtain ⟨bj, kj, capj, lj, ej, frj, hbe, hbinj, hbcj, hbnj⟩ := hr.open (by omega)
    cases hbe
    obtain ⟨cc, hcut, vb, vd, rfl, hvb, hvd, htr⟩ := hbn i hlt
    obtain ⟨cc, hcutj, vo, rfl, hvo, hrr⟩ := hbnj i (by omega)
    have hW1 : W[i] = (ts[i], rs[i]) := by subst hW; simp
    rw [hW1] at hrt hbt
    simp only at hrt hbt
    have g0 : NthL lj (kj + i * 11) (.int .i64 rs[i].errno) := nth_cut 0 hcutj rfl
    clear hbn hbnj hW1
    generalize ts[i] = t at *
    generalize rs[i] = r at *
    generalize hP : rows (W.take i) = P at *
    generalize hB : bnd (W.take i) = B at *
    have q1 := hvb.sng
    have q2 := hvd.sng
    have q3 := hvo.sng
    have sav := hI.row.sng
    have hlti : (i : Int) < ts.length := by omega
    have hltj : (i : Int) < rs.length := by omega
    rw [hrt, hbt]
    by_cases hre : r.errno = 0
    ·generalize hw : (⟨t, r, i, B⟩ : Row) = w at *
     generalize hop1 : (fun m => if begins x w ∧ w.t.thread = m then opAt x w.b P m ++ [(allOf x P).length] else if ends x w ∧ w.t.thread = m then [] else opAt x w.b P m) = op1
     repeat' (first|refine Gi0 fun _=>?_|refine Bi1 ?_|refine Gi2 (fun _=>?_) fun _=>?_|refine Gi3 ?_|refine Gi4 fun _=>?_|fail)
     refine CW.block ?_
     repeat' (first|refine Gi0 fun _=>?_|refine Bi1 ?_|refine Gi2 (fun _=>?_) fun _=>?_|refine Gi3 ?_|refine Gi4 fun _=>?_|fail)
     rename_i b13
     refine CW.cutK (fun ρ ds L' => ds = [] ∧ (∃ X es1 c1 zs1 N1 av1 xs1, InC X b13 (.cells (tcells t vb vd).toArray 108 (0, 0)) ∧ OfI x B P op1 (allOf x (P ++ [w])) L bs cb p es1 c1 zs1 N1 av1 xs1 ∧ L' = X ++ ofC bb bo b5 x bs cb es1 c1 N1 (OQ zs1) L ∧ Ev ρ 11 av1) ∧
       Ev ρ 0 (.slice (some ⟨bk, kk, none⟩) ts.length cl) ∧ Ev ρ 1 (.slice (some ⟨bj, kj, none⟩) rs.length cr) ∧ Ev ρ 5 (ptr b5) ∧ Ev ρ 9 (.map (some bb)) ∧ Ev ρ 10 (.map (some bo)) ∧ Ev ρ 13 (ptr b13) ∧ Ev ρ 29 (.slice (some ⟨bk, kk, none⟩) ts.length cl) ∧ Ev ρ 30 (.int .i64 (ts.length : Int)) ∧ Ev ρ 31 (.int .i64 (i : Int))) ?_ ?_
     ·clear e0 e1 e5 e9 e10 e29 e30 e31 e11
      rintro ρ ds L' ⟨rfl, ⟨X, es1, c1, zs1, N1, av1, xs1, i13, hI1, rfl, e11⟩, e0, e1, e5, e9, e10, e13, e29, e30, e31⟩
      have sav1 := hI1.row.sng
      repeat' (first|refine Gi0 fun _=>?_|refine Gi1 ?_|refine Gi2 (fun _=>?_) fun _=>?_|refine Gi3 ?_|refine Gi4 fun _=>?_|fail)
      refine OW.call (ocTurn t vb vd bb cb bs p _ _ hI1.kb hI1.hb) ?_
      rintro _ _ ⟨bs', cb', rfl, hkb', hhb'⟩
      repeat' (first|refine Gi0 fun _=>?_|refine Gi1 ?_|refine Gi2 (fun _=>?_) fun _=>?_|refine Gi3 ?_|refine Gi4 fun _=>?_|fail)
      rename_i ri
      have hkc : ∀ seen, KV .i64 (cur es1 (fun e => !decide (isThread (kI e.key) ∧ pbind p t (kI e.key) = some x)) seen) c1 := fun seen => hI1.op.kv.filter _
      refine CW.loop (fun k ρ ds L' => ds = [] ∧ (∃ Y seen, L' = Y ++ ((ri, .mapIter (some bo) c1 seen c1) :: (X ++ ofC bb bo b5 x bs' cb' (cur es1 (fun e => !decide (isThread (kI e.key) ∧ pbind p t (kI e.key) = some x)) seen) c1 N1 (OQ zs1) L)) ∧ k = unseen es1 seen) ∧
        Ev ρ 0 (.slice (some ⟨bk, kk, none⟩) ts.length cl) ∧ Ev ρ 1 (.slice (some ⟨bj, kj, none⟩) rs.length cr) ∧ Ev ρ 5 (ptr b5) ∧ Ev ρ 9 (.map (some bb)) ∧ Ev ρ 10 (.map (some bo)) ∧ Ev ρ 11 av1 ∧ Ev ρ 29 (.slice (some ⟨bk, kk, none⟩) ts.length cl) ∧ Ev ρ 30 (.int .i64 (ts.length : Int)) ∧ Ev ρ 31 (.int .i64 (i : Int)) ∧ Ev ρ 124 (ptr ri)) (unseen es1 #[])
       ⟨rfl, ⟨[], #[], by rw [cur_nil]; rfl, rfl⟩, ii, ii, ii, ii, ii, ii, ii, ii, ii, ii⟩ ?_
      clear e0 e1 e5 e9 e10 e29 e30 e31 e11 e13
      rintro k ρ ds L' ⟨rfl, ⟨Y, seen, rfl, rfl⟩, e0, e1, e5, e9, e10, e11, e29, e30, e31, e124⟩
      repeat' (first|refine Gi0 fun _=>?_|refine Gi1 ?_|refine Gi2 (fun _=>?_) fun _=>?_|refine Gi3 ?_|refine Gi4 fun _=>?_|fail)
      refine OW.nextZ (r := ri) (m := bo) (since := c1) (c0 := c1) (clock := c1) (seen := seen) (es := cur es1 (fun e => !decide (isThread (kI e.key) ∧ pbind p t (kI e.key) = some x)) seen) (zs := (cur es1 (fun e => !decide (isThread (kI e.key) ∧ pbind p t (kI e.key) = some x)) seen).map fun e => (e, ())) (hkc seen) (by rw [List.map_map]; exact (List.map_id _).symm) (todo_left _ _) (fun e he => (hkc seen).old e he) (Nat.le_refl _) (fun h => ?_) (fun A' z B' htz hz' hl' => ?_)
      ·have hce := cur_end h
       have hnn : (fun e : MapEntry => !((fun e => !decide (isThread (kI e.key) ∧ pbind p t (kI e.key) = some x)) e)) = fun e => (fun n => decide (isThread n ∧ pbind p t n = some x)) (kI e.key) := by funext e; simp
       rw [hnn] at hce
       rw [hce]
       have hbr := hI1.br.step hx0 (t := t) hre
       have hfin : OfI x (bindStep B t r) (P ++ [w]) (opAt x (bindStep B t r) (P ++ [w])) (allOf x (P ++ [w])) L bs' cb' (pbind p t) (es1.filter fun e => (fun n => decide (isThread n ∧ pbind p t n = some x)) (kI e.key)) c1 (zs1.filter fun z => (fun n => decide (isThread n ∧ pbind p t n = some x)) (kI z.e.key)) N1 av1 xs1 :=
        ⟨hkb', hhb', hbr, (hI1.op.filter (fun n => decide (isThread n ∧ pbind p t n = some x))).congr (fun m => op_next hx0 hbr (fun n hn => by rw [← hbt]; exact bnd_thread hn _) (fun m => by rw [← hop1]) m), hI1.row, hI1.lat⟩
       have hsq : SubC (OQ (zs1.filter fun z => (fun n => decide (isThread n ∧ pbind p t n = some x)) (kI z.e.key))) (OQ zs1) := ⟨OQ_sub zs1⟩
       generalize (zs1.filter fun z => (fun n => decide (isThread n ∧ pbind p t n = some x)) (kI z.e.key)) = zs2 at *
       generalize (es1.filter fun e => (fun n => decide (isThread n ∧ pbind p t n = some x)) (kI e.key)) = es2 at *
       refine OW.drop (L' := Y ++ ((ri, .mapIter (some bo) c1 seen c1) :: (X ++ ofC bb bo b5 x bs' cb' es2 c1 N1 (OQ zs2) L))) SubC.out ?_
       repeat' (first|refine Gi0 fun _=>?_|refine Gi1 ?_|refine Gi2 (fun _=>?_) fun _=>?_|refine Gi3 ?_|refine Gi4 fun _=>?_|fail)
       exact ⟨hlt, rfl, ⟨Y ++ ((ri, .mapIter (some bo) c1 seen c1) :: X), bs', cb', _, es2, c1, zs2, N1, av1, xs1, hfin, by simp [ofC], ii⟩, ii, ii, ii, ii, ii, ii, ii, by rw [Int.natCast_add]; infer_instance⟩
      ·obtain ⟨z1, ⟨⟩⟩ := z
       obtain ⟨hzc, hns⟩ := todo_mem htz
       simp only at hzc hns
       have hze := cur_sub hzc
       have hltu := unseen_lt hze hns
       have hst := cur_step hI1.op.kv (fun e => !decide (isThread (kI e.key) ∧ pbind p t (kI e.key) = some x)) hze hns
       obtain ⟨kz, hkz⟩ := hI1.op.kv.keys z1 hze
       have hkI : kI z1.key = kz := by rw [hkz]; rfl
       rw [hkI] at hst
       repeat' (first|refine Gi0 fun _=>?_|refine Gi1 ?_|refine Gi2 (fun _=>?_) fun _=>?_|refine Gi3 ?_|refine Gi4 fun _=>?_|fail)
       refine OW.entryE (r := ri) (m := bo) (since := c1) (c := c1) (seen := seen) (e := z1) (hkc seen) hzc ?_
       rw [hkz]
       have szv : Sng z1.val := by
        obtain ⟨zz, hzz, hze2⟩ := List.mem_map.1 (hI1.op.es ▸ hze)
        rw [← hze2]
        exact (hI1.op.row zz hzz).sng
       repeat' (first|refine Gi0 fun _=>?_|refine Gi1 ?_|refine Gi2 (fun _=>?_) fun _=>?_|refine Gi3 ?_|refine Gi4 fun _=>?_|fail)
       refine OW.call (ocIs bb cb' bs' (pbind p t) kz x _ hkb' hhb') ?_
       rintro _ _ ⟨rfl, rfl⟩
       by_cases hq : isThread kz ∧ pbind p t kz = some x
       ·rw [decide_eq_true hq] at hst ⊢
        rw [if_neg (by decide)] at hst
        rw [← hst]
        repeat' (first|refine Gi0 fun _=>?_|refine Gi1 ?_|refine Gi2 (fun _=>?_) fun _=>?_|refine Gi3 ?_|refine Gi4 fun _=>?_|fail)
        exact ⟨_, hltu, rfl, ⟨Y, _, rfl, rfl⟩, ii, ii, ii, ii, ii, ii, ii, ii, ii, ii⟩
       ·rw [decide_eq_false hq] at hst ⊢
        rw [if_pos (by decide)] at hst
        repeat' (first|refine Gi0 fun _=>?_|refine Gi1 ?_|refine Gi2 (fun _=>?_) fun _=>?_|refine Gi3 ?_|refine Gi4 fun _=>?_|fail)
        refine OW.mapDel (m := bo) (k := .i64) (j := kz) (c := c1) (es := cur es1 (fun e => !decide (isThread (kI e.key) ∧ pbind p t (kI e.key) = some x)) seen) (hkc seen) ?_
        rw [updO_none, ← hst]
        repeat' (first|refine Gi0 fun _=>?_|refine Gi1 ?_|refine Gi2 (fun _=>?_) fun _=>?_|refine Gi3 ?_|refine Gi4 fun _=>?_|fail)
        exact ⟨_, hltu, rfl, ⟨Y, _, rfl, rfl⟩, ii, ii, ii, ii, ii, ii, ii, ii, ii, ii⟩
     ·intro N' hN'
      have hAl : (allOf x P).length ≤ 4096 := by
       have h3 := allOf_len x P
       have h4 : P.length ≤ i := by rw [← hP, rows_length, List.length_take]; omega
       omega
      have hwt : w.t = t := by rw [← hw]
      have hwr : w.r = r := by rw [← hw]
      have hwb : w.b = B := by rw [← hw]
      have hwa : w.at_ = i := by rw [← hw]
      have hnone : begins x w = false → ¬ ends x w → op1 = opAt x B P ∧ allOf x (P ++ [w]) = allOf x P := fun h1 h2 => by
       refine ⟨?_, by rw [allOf_snoc, if_neg h2, h1]; simp⟩
       rw [← hop1]
       funext m
       rw [if_neg (fun h => by have h3 := h.1; rw [h1] at h3; cases h3), if_neg (fun h => h2 h.1), hwb]
      have hwho : (isThread t.thread ∧ p t.thread = some x) ↔ (isThread t.thread ∧ whose w t.thread x) := by
       unfold whose
       rw [hwb, getD_some hx0]
       exact ⟨fun h => ⟨h.1, (hI.br _ h.1).1 h.2⟩, fun h => ⟨h.1, (hI.br _ h.1).2 h.2⟩⟩
      by_cases k5 : t.kind = 5
      ·have hnoe : ¬ ends x w := fun h => by have := h.1.1; rw [hwt] at this; omega
       repeat' (first|refine Gi0 fun _=>?_|refine Gi1 ?_|refine Gi2 (fun _=>?_) fun _=>?_|refine Gi3 ?_|refine Gi4 fun _=>?_|fail)
       refine OW.call (ocIs bb cb bs p t.thread x _ hI.kb hI.hb) ?_
       rintro _ _ ⟨rfl, rfl⟩
       by_cases hq : isThread t.thread ∧ p t.thread = some x
       ·rw [decide_eq_true hq]
        have hbeg : begins x w = true := decide_eq_true ⟨⟨by rw [hwt]; exact k5, by rw [hwr]; exact hre⟩, by rw [hwt]; exact hq.1, by rw [hwt]; exact (hwho.1 hq).2⟩
        have h1 : op1 = opSet (opAt x B P) t.thread (opAt x B P t.thread ++ [(allOf x P).length]) := by
         rw [← hop1]
         funext m
         unfold opSet
         rw [hwb, hwt]
         by_cases hm : m = t.thread
         ·rw [if_pos hm, if_pos ⟨hbeg, hm.symm⟩, hm]
         ·rw [if_neg hm, if_neg (fun h => hm h.2.symm), if_neg (fun h => hnoe h.1)]
        have h2 : allOf x (P ++ [w]) = allOf x P ++ [⟨t.thread, opOf t, outZ, i, -1⟩] := by rw [allOf_snoc, if_neg hnoe, if_pos hbeg]; unfold tdOf; rw [hwt, hwa]
        have htd : TdR ⟨t.thread, opOf t, outZ, i, -1⟩ := ⟨htr.thread, ⟨htr.okind, htr.oat, htr.osize, htr.omult, htr.omany⟩, ⟨show inR .i64 0 by decide, show inR .u32 0 by decide, show inR .i64 0 by decide⟩, (show inR .i64 ((i : Nat) : Int) by constructor <;> omega), show inR .i64 (-1) by decide⟩
        obtain ⟨gv, QA, N0, QB, hgv, hQ, hrow0, hpush⟩ := op_push hI.op t.thread (allOf x P).length
        have hrowA := hI.row
        have hlatA := hI.lat
        have hkvA := hI.op.kv
        obtain ⟨aa, ac, hav, _⟩ := hI.row.rd.isSlice
        have sgv := hrow0.sng
        have hol : (opAt x B P t.thread).length ≤ 4096 := by
         have h3 : (opAt x B P t.thread).length ≤ (openOf x t.thread P 0).length := by unfold opAt; split <;> simp
         have := openOf_le x t.thread P 0
         omega
        subst hav
        rw [hQ]
        repeat' (first|refine Gi0 fun _=>?_|refine Hi1 ?_|refine CW.drawsSw (id := 32) [] [0, 1, 2, 4, 5, 6, 3, 8] 9 [7, 10, 11, 12, 13] mixed (by kernel_rfl) ?_|refine Gi2 (fun _=>?_) fun _=>?_|refine Gi3 ?_|refine Gi4 fun _=>?_|fail)
        refine CW.drawsE [(b13, .cells (tcells t vb vd).toArray 108 (0, 0)), (bo, .map (List.toArray es) c)] [0, 1, 2, 3, 4, 5, 6, 7, 8, 9, 10] 11 mixed (by kernel_rfl) ?_
        repeat' (first|refine Gi0 fun _=>?_|refine Gi1 ?_|refine Gi2 (fun _=>?_) fun _=>?_|refine Gi3 ?_|refine Gi4 fun _=>?_|fail)
        refine RW.lookD (m := bo) (c := c) (es := es) (v := gv) hkvA.keys hgv ?_
        repeat' (first|refine Gi0 fun _=>?_|refine Gi1 ?_|refine Gi2 (fun _=>?_) fun _=>?_|refine Gi3 ?_|refine Gi4 fun _=>?_|fail)
        rename_i b62
        refine RW.append hrow0 ii (Rd.blk (n := 1) (l := [.int .i64 ((allOf x P).length : Int)]) rfl (Nat.le_refl _)) (fun v hv => by rw [List.mem_singleton.1 hv]; infer_instance) (by omega) (fun v' N1 hrow1 => ⟨_, fun _ h => h, fun q hq => ?_, ?_⟩)
        ·simp only [List.mem_cons, List.not_mem_nil, or_false] at hq
         rcases hq with rfl | rfl <;> simp [ofC]
        obtain ⟨zs2, hop2, hQ2⟩ := hpush v' N1 hrow1
        have sv' := hrow1.sng
        repeat' (first|refine Gi0 fun _=>?_|refine Gi1 ?_|refine Gi2 (fun _=>?_) fun _=>?_|refine Gi3 ?_|refine Gi4 fun _=>?_|fail)
        refine OW.mapPut (m := bo) (es := es) (c := c) (j := t.thread) (u := v') hkvA ?_
        repeat' (first|refine Gi0 fun _=>?_|refine Gi1 ?_|refine Gi2 (fun _=>?_) fun _=>?_|refine Gi3 ?_|refine Gi4 fun _=>?_|fail)
        rename_i b71
        refine OW.append hrowA ii (Rd.blk (n := 1) (l := tdC ⟨t.thread, opOf t, outZ, i, -1⟩ vb (.slice none 0 0)) rfl (Nat.le_refl _)) (fun v hv => by
         simp only [tdC, List.mem_cons, List.not_mem_nil, or_false] at hv
         rcases hv with rfl | rfl | rfl | rfl | rfl | rfl | rfl | rfl | rfl | rfl | rfl | rfl | rfl <;> first | infer_instance | assumption) (by omega) (fun v2 N2 hrow2 => ?_)
        have sv2 := hrow2.sng
        repeat' (first|refine Gi0 fun _=>?_|refine Gi1 ?_|refine Gi2 (fun _=>?_) fun _=>?_|refine Gi3 ?_|refine Gi4 fun _=>?_|fail)
        refine hN' _ _ _ ⟨rfl, ⟨[(b71, .cells (tdC ⟨t.thread, opOf t, outZ, i, -1⟩ vb (.slice none 0 0)).toArray 103 (0, 0)), (b62, .cells #[.int .i64 ((allOf x P).length : Int)] 3 (0, 0)), (b13, .cells (tcells t vb vd).toArray 108 (0, 0))] ++ X, _, _, zs2, N2, v2, _, ii,
         ⟨hI.kb, hI.hb, hI.br, h1 ▸ hop2, by rw [h2, List.length_append]; exact hrow2, by rw [h2]; exact hlatA.append (LAt.one rfl ⟨_, _, rfl, hvb, BS.nil L, htd⟩)⟩, by rw [hQ2]; rfl, ii⟩, ii, ii, ii, ii, ii, ii, ii, ii, ii⟩
       ·rw [decide_eq_false hq]
        have hnb : begins x w = false := decide_eq_false fun h => hq (hwho.2 (by have h3 := h.2; rw [hwt] at h3; exact h3))
        obtain ⟨h1, h2⟩ := hnone hnb hnoe
        repeat' (first|refine Gi0 fun _=>?_|refine Gi1 ?_|refine Gi2 (fun _=>?_) fun _=>?_|refine Gi3 ?_|refine Gi4 fun _=>?_|fail)
        refine hN' _ _ _ ⟨rfl, ⟨(b13, .cells (tcells t vb vd).toArray 108 (0, 0)) :: X, es, c, zs, N, av, xs, ii, ⟨hI.kb, hI.hb, hI.br, hI.op.congr (fun m => by rw [h1]), by rw [h2]; exact hI.row, by rw [h2]; exact hI.lat⟩, rfl, ii⟩, ii, ii, ii, ii, ii, ii, ii, ii, ii⟩
      ·have hnb : begins x w = false := decide_eq_false fun h => k5 (by have := h.1.1; rw [hwt] at this; exact this)
       by_cases k6 : t.kind = 6
       ·repeat' (first|refine Gi0 fun _=>?_|refine Gi1 ?_|refine Gi2 (fun _=>?_) fun _=>?_|refine Gi3 ?_|refine Gi4 fun _=>?_|fail)
        refine OW.call (ocIs bb cb bs p t.thread x _ hI.kb hI.hb) ?_
        rintro _ _ ⟨rfl, rfl⟩
        by_cases hq : isThread t.thread ∧ p t.thread = some x
        ·rw [decide_eq_true hq]
         cases hd : r.done with
         | true =>
          unfold rcells at hcutj
          rw [hd] at hcutj
          have hcd : CutL lj (kj + i * 11 + 4) 7 [.int .i64 r.dkind, .int .i64 r.dat, .bool true, .int .i64 r.oerrno, .int .u32 r.oad, .int .i64 r.on, vo] := cutSub hcutj 4 7 (by decide)
          have hco : CutL lj (kj + i * 11 + 4 + 3) 4 [.int .i64 r.oerrno, .int .u32 r.oad, .int .i64 r.on, vo] := cutSub hcd 3 4 (by decide)
          have g6 : NthL lj (kj + i * 11 + 4 + 2) (.bool true) := nth_cut 2 hcd rfl
          have hend : ends x w := ⟨⟨by rw [hwt]; exact k6, by rw [hwr]; exact hre⟩, by rw [hwr]; exact hd, by rw [hwt]; exact (hwho.1 hq).2⟩
          have hnb2 : begins x w = false := hnb
          have h1 : ∀ m, op1 m = if decide (m ≠ t.thread) then opAt x B P m else [] := fun m => by
           rw [← hop1]
           simp only
           rw [if_neg (fun h => by have h3 := h.1; rw [hnb2] at h3; cases h3), hwb, hwt]
           by_cases hm : m = t.thread
           ·rw [if_pos ⟨hend, hm.symm⟩, if_neg (by simp [hm])]
           ·rw [if_neg (fun h => hm h.2.symm), if_pos (by simp [hm])]
          have h2 : allOf x (P ++ [w]) = setAt i (outOf r) (allOf x P) (opAt x B P t.thread) := by
           rw [allOf_snoc, if_pos hend, hnb2, hwa, hwr, hwt, if_neg (by decide), List.append_nil]
           unfold opAt
           rw [if_pos (by rw [← hwb]; exact (hwho.1 hq).2)]
          have hks : ∀ z ∈ opAt x B P t.thread, z < (allOf x P).length := fun z hz => by
           unfold opAt at hz
           split at hz
           ·have := openOf_lt x t.thread P 0 z hz; omega
           ·cases hz
          obtain ⟨gv, hgv, hgr⟩ := op_look hI.op t.thread
          have hrowA := hI.row
          have hlatA := hI.lat
          have hkvA := hI.op.kv
          have sgv := hgr.sng
          obtain ⟨ga, gc, hgs, _⟩ := hgr.isSlice
          have hol : (opAt x B P t.thread).length ≤ 4096 := by
           have h3 : (opAt x B P t.thread).length ≤ (openOf x t.thread P 0).length := by unfold opAt; split <;> simp
           have := openOf_le x t.thread P 0
           omega
          subst hgs
          repeat' (first|refine Gi0 fun _=>?_|refine Gi1 ?_|refine Gi2 (fun _=>?_) fun _=>?_|refine Gi3 ?_|refine Gi4 fun _=>?_|fail)
          refine OW.lookD (m := bo) (c := c) (es := es) (v := .slice ga (opAt x B P t.thread).length gc) hkvA.keys hgv ?_
          repeat' (first|refine Gi0 fun _=>?_|refine Gi1 ?_|refine Gi2 (fun _=>?_) fun _=>?_|refine Gi3 ?_|refine Gi4 fun _=>?_|fail)
          generalize hkz : opAt x B P t.thread = ks at *
          refine CW.count ks.length (fun j ρ ds L' => ds = [] ∧ (∃ N1 xs1, Row 103 13 N1 av (allOf x P).length xs1 ∧ LAt 13 (TdAt L) xs1 (setAt i (outOf r) (allOf x P) (ks.take j)) ∧ L' = (b13, .cells (tcells t vb vd).toArray 108 (0, 0)) :: (X ++ ofC bb bo b5 x bs cb es c N1 (OQ zs) L)) ∧
            Ev ρ 0 (.slice (some ⟨bk, kk, none⟩) ts.length cl) ∧ Ev ρ 1 (.slice (some ⟨bj, kj, none⟩) rs.length cr) ∧ Ev ρ 5 (ptr b5) ∧ Ev ρ 9 (.map (some bb)) ∧ Ev ρ 10 (.map (some bo)) ∧ Ev ρ 11 av ∧ Ev ρ 12 (.int .i64 (i : Int)) ∧ Ev ρ 13 (ptr b13) ∧ Ev ρ 29 (.slice (some ⟨bk, kk, none⟩) ts.length cl) ∧ Ev ρ 30 (.int .i64 (ts.length : Int)) ∧ Ev ρ 31 (.int .i64 (i : Int)) ∧
            Ev ρ 95 (.slice ga ks.length gc) ∧ Ev ρ 96 (.int .i64 (ks.length : Int)) ∧ Ev ρ 97 (.int .i64 (j : Int)))
           ⟨rfl, ⟨N, xs, hrowA, hlatA, rfl⟩, ii, ii, ii, ii, ii, ii, ii, ii, ii, ii, ii, ii, ii, ii⟩ ?_
          clear e0 e1 e5 e9 e10 e29 e30 e31 e11
          rintro j ρ ds L' hj ⟨rfl, ⟨N1, xs1, hrow1, hlat1, rfl⟩, e0, e1, e5, e9, e10, e11, e12, e13, e29, e30, e31, e95, e96, e97⟩
          by_cases hlj : j < ks.length
          ·obtain ⟨bg, kg, capg, lg, eg, frg, hbe, hbing, hbcg, hbng⟩ := hgr.open1 (by omega)
           cases hbe
           have hnth := hbng j (.int .i64 (ks[j] : Int)) hlj (by simp [List.getElem?_eq_getElem hlj])
           have hzk := hks ks[j] (List.getElem_mem hlj)
           have hts : ks.take (j + 1) = ks.take j ++ [ks[j]] := by rw [List.take_add_one, List.getElem?_eq_getElem hlj]; rfl
           have hsn : setAt i (outOf r) (allOf x P) (ks.take (j + 1)) = (setAt i (outOf r) (allOf x P) (ks.take j)).modify ks[j] (answer i (outOf r)) := by rw [hts]; unfold setAt; rw [List.foldl_append]; rfl
           have hzA : ks[j] < (setAt i (outOf r) (allOf x P) (ks.take j)).length := by rw [setAt_len]; exact hzk
           rw [modify_set _ hzA] at hsn
           obtain ⟨U, cz, V, rfl, hU, hcz, ⟨wx, wo, rfl, hwx, hwo, hwr2⟩, hput⟩ := LAt.split hzA hlat1
           have hjk : (j : Int) < ks.length := by omega
           clear hbng hts
           generalize (setAt i (outOf r) (allOf x P) (ks.take j))[ks[j]] = y at *
           generalize ks[j] = z at *
           have hlat2 := hput (tdC (answer i (outOf r) y) wx vo) (answer i (outOf r) y) rfl ⟨_, _, rfl, hwx, hvo, ⟨hwr2.thread, hwr2.op, ⟨hrr.oerrno, hrr.oad, hrr.on⟩, hwr2.from_, (show inR .i64 ((i : Nat) : Int) by constructor <;> omega)⟩⟩
           rw [← hsn] at hlat2
           obtain ⟨hl1, hrow2⟩ := hrow1
           rcases hrow2 with ⟨_, h0, _⟩ | ⟨bA, capA, restA, rfl, rfl, hcapA, hrestA⟩
           ·omega
           have hzi : (z : Int) < (allOf x P).length := by omega
           have q4 := hwx.sng
           have q5 := hwo.sng
           have s1 : SetL ((U ++ (tdC y wx wo ++ V)) ++ restA) (z * 13 + 12) (.int .i64 (i : Int)) ((U ++ (tdC ⟨y.thread, y.op, y.out, y.from_, i⟩ wx wo ++ V)) ++ restA) := setMid hU ⟨(show (12 : Nat) < 13 by decide), rfl⟩
           have s2 : PutL ((U ++ (tdC ⟨y.thread, y.op, y.out, y.from_, i⟩ wx wo ++ V)) ++ restA) (z * 13 + 7) [.int .i64 r.oerrno, .int .u32 r.oad, .int .i64 r.on, vo] ((U ++ (tdC (answer i (outOf r) y) wx vo ++ V)) ++ restA) := putMid hU ⟨(show (7 + 4 : Nat) ≤ 13 by decide), rfl⟩
           repeat' (first|refine Gi0 fun _=>?_|refine Gi1 ?_|refine Gi2 (fun _=>?_) fun _=>?_|refine Gi3 ?_|refine Gi4 fun _=>?_|fail)
           refine ⟨hlj, rfl, ⟨[(bA, .cells ((U ++ (tdC (answer i (outOf r) y) wx vo ++ V)) ++ restA).toArray 103 (0, 0))], _, ⟨by simpa using hl1, .inr ⟨bA, capA, restA, rfl, rfl, hcapA, by simpa using hrestA⟩⟩, hlat2, rfl⟩, ii, ii, ii, ii, ii, ii, ii, ii, ii, ii, ii, ii, ii, by rw [Int.natCast_add]; infer_instance⟩
          ·obtain rfl : j = ks.length := by omega
           rw [List.take_length, ← h2] at hlat1
           have hrow1' : Row 103 13 N1 av (allOf x (P ++ [w])).length xs1 := by rw [h2, setAt_len]; exact hrow1
           have sav1 := hrow1.sng
           have hopf := (hI.op.filter (fun m => decide (m ≠ t.thread))).congr h1
           have hsq : SubC (OQ (zs.filter fun z => (fun m => decide (m ≠ t.thread)) (kI z.e.key))) (OQ zs) := ⟨OQ_sub zs⟩
           generalize (zs.filter fun z => (fun m => decide (m ≠ t.thread)) (kI z.e.key)) = zs2 at *
           repeat' (first|refine Gi0 fun _=>?_|refine Gi1 ?_|refine Gi2 (fun _=>?_) fun _=>?_|refine Gi3 ?_|refine Gi4 fun _=>?_|fail)
           refine OW.drop (L' := (b13, .cells (tcells t vb vd).toArray 108 (0, 0)) :: (X ++ ofC bb bo b5 x bs cb es c N1 (OQ zs2) L)) SubC.out ?_
           refine OW.mapDel (m := bo) (k := .i64) (j := t.thread) (c := c) (es := es) hkvA ?_
           rw [updO_none]
           repeat' (first|refine Gi0 fun _=>?_|refine Gi1 ?_|refine Gi2 (fun _=>?_) fun _=>?_|refine Gi3 ?_|refine Gi4 fun _=>?_|fail)
           refine hN' _ _ _ ⟨rfl, ⟨(b13, .cells (tcells t vb vd).toArray 108 (0, 0)) :: X, _, c, zs2, N1, av, xs1, ii, ⟨hI.kb, hI.hb, hI.br, hopf, hrow1', hlat1⟩, rfl, ii⟩, ii, ii, ii, ii, ii, ii, ii, ii, ii⟩
         | false =>
          unfold rcells at hcutj
          rw [hd] at hcutj
          have hcd : CutL lj (kj + i * 11 + 4) 7 [.int .i64 r.dkind, .int .i64 r.dat, .bool false, .int .i64 r.oerrno, .int .u32 r.oad, .int .i64 r.on, vo] := cutSub hcutj 4 7 (by decide)
          have hco : CutL lj (kj + i * 11 + 4 + 3) 4 [.int .i64 r.oerrno, .int .u32 r.oad, .int .i64 r.on, vo] := cutSub hcd 3 4 (by decide)
          have g6 : NthL lj (kj + i * 11 + 4 + 2) (.bool false) := nth_cut 2 hcd rfl
          have hnoe : ¬ ends x w := fun h => by have := h.2.1; rw [hwr, hd] at this; cases this
          obtain ⟨h1, h2⟩ := hnone hnb hnoe
          repeat' (first|refine Gi0 fun _=>?_|refine Gi1 ?_|refine Gi2 (fun _=>?_) fun _=>?_|refine Gi3 ?_|refine Gi4 fun _=>?_|fail)
          refine hN' _ _ _ ⟨rfl, ⟨(b13, .cells (tcells t vb vd).toArray 108 (0, 0)) :: X, es, c, zs, N, av, xs, ii, ⟨hI.kb, hI.hb, hI.br, hI.op.congr (fun m => by rw [h1]), by rw [h2]; exact hI.row, by rw [h2]; exact hI.lat⟩, rfl, ii⟩, ii, ii, ii, ii, ii, ii, ii, ii, ii⟩
        ·rw [decide_eq_false hq]
         have hnoe : ¬ ends x w := fun h => by
          have h3 := h.2.2
          rw [hwt] at h3
          have h4 : w.b t.thread = some x := (getD_some hx0 _).1 h3
          have h5 : isThread t.thread := Classical.byContradiction fun h5 => by
           have := bnd_thread h5 (W.take i)
           rw [hB, ← hwb, h4] at this
           cases this
          exact hq (hwho.2 ⟨h5, h3⟩)
         obtain ⟨h1, h2⟩ := hnone hnb hnoe
         repeat' (first|refine Gi0 fun _=>?_|refine Gi1 ?_|refine Gi2 (fun _=>?_) fun _=>?_|refine Gi3 ?_|refine Gi4 fun _=>?_|fail)
         refine hN' _ _ _ ⟨rfl, ⟨(b13, .cells (tcells t vb vd).toArray 108 (0, 0)) :: X, es, c, zs, N, av, xs, ii, ⟨hI.kb, hI.hb, hI.br, hI.op.congr (fun m => by rw [h1]), by rw [h2]; exact hI.row, by rw [h2]; exact hI.lat⟩, rfl, ii⟩, ii, ii, ii, ii, ii, ii, ii, ii, ii⟩
       ·have hnoe : ¬ ends x w := fun h => k6 (by have := h.1.1; rw [hwt] at this; exact this)
        obtain ⟨h1, h2⟩ := hnone hnb hnoe
        repeat' (first|refine Gi0 fun _=>?_|refine Gi1 ?_|refine Gi2 (fun _=>?_) fun _=>?_|refine Gi3 ?_|refine Gi4 fun _=>?_|fail)
        refine hN' _ _ _ ⟨rfl, ⟨(b13, .cells (tcells t vb vd).toArray 108 (0, 0)) :: X, es, c, zs, N, av, xs, ii, ⟨hI.kb, hI.hb, hI.br, hI.op.congr (fun m => by rw [h1]), by rw [h2]; exact hI.row, by rw [h2]; exact hI.lat⟩, rfl, ii⟩, ii, ii, ii, ii, ii, ii, ii, ii, ii⟩
    ·obtain ⟨g1, g2⟩ := not_fine (x := x) (w := ⟨t, r, i, B⟩) hre
     have hA : allOf x (P ++ [⟨t, r, i, B⟩]) = allOf x P := by rw [allOf_snoc, if_neg g2, g1]; simp
     have hO : ∀ m, opAt x B (P ++ [⟨t, r, i, B⟩]) m = opAt x B P m := fun m => by
      rw [opAt_snoc]
      by_cases h : (B m).getD (0, 0) = x
      ·rw [if_pos h, if_neg (fun h2 => by have h3 := h2.1; rw [g1] at h3; cases h3), if_neg (fun h2 => g2 h2.1)]
      ·rw [if_neg h]
       unfold opAt
       rw [if_neg h]
     rw [bind_no hre, hA]
     have hI2 : OfI x B (P ++ [⟨t, r, i, B⟩]) (opAt x B (P ++ [⟨t, r, i, B⟩])) (allOf x P) L bs cb p es c zs N av xs := ⟨hI.kb, hI.hb, hI.br, hI.op.congr hO, hI.row, hI.lat⟩
     repeat' (first|refine Gi0 fun _=>?_|refine Gi1 ?_|refine Gi2 (fun _=>?_) fun _=>?_|refine Gi3 ?_|refine Gi4 fun _=>?_|fail)
     exact ⟨hlt, rfl, ⟨_ :: X, bs, cb, p, es, c, zs, N, av, xs, hI2, rfl, ii⟩, ii, ii, ii, ii, ii, ii, ii, by rw [Int.natCast_add]; infer_instance⟩
   ·obtain rfl : i = ts.length := by omega
    rw [List.take_of_length_le (show W.length ≤ ts.length by omega)] at hI
    have hrowA := hI.row
    have hlatA := hI.lat
    rw [ofR_all]
    have hAl : (allOf x (rows W)).length ≤ 4096 := by
     have h3 := allOf_len x (rows W)
     rw [rows_length] at h3
     omega
    clear hI e0 e1
    generalize allOf x (rows W) = A at *
    obtain ⟨aa, ac, hav, _⟩ := hrowA.rd.isSlice
    subst hav
    repeat' (first|refine Gi0 fun _=>?_|refine Gi1 ?_|refine Gi2 (fun _=>?_) fun _=>?_|refine Gi3 ?_|refine Gi4 fun _=>?_|fail)
    have hG0 : X ++ ofC bb bo b5 x bs cb es c N (OQ zs) L = (X ++ ((bo, .map (List.toArray es) c) :: (bb, .map (List.toArray bs) cb) :: (N ++ (OQ zs ++ [(b5, b5C x)])))) ++ L := by simp [ofC]
    have hlsG : LS 13 TdAt (X ++ ofC bb bo b5 x bs cb es c N (OQ zs) L) (.slice aa A.length ac) A := ⟨⟨xs, hrowA.rd.mono fun q hq => by simp [ofC, hq], hlatA.mono fun c a h => TdAt.to (hm := ⟨fun q hq => by simp [ofC, hq]⟩) c a h⟩, by omega⟩
    generalize X ++ ofC bb bo b5 x bs cb es c N (OQ zs) L = G at *
    refine CW.count A.length (fun j ρ ds L' => ds = [] ∧ (∃ Z No vo os xo, Row 103 13 No vo os.length xo ∧ LAt 13 (TdAt (Z ++ G)) xo os ∧ os = (A.take j).filter (fun y => decide (0 ≤ y.to_)) ∧ L' = Z ++ (No ++ G) ∧ Ev ρ 17 vo) ∧
      Ev ρ 137 (.slice aa A.length ac) ∧ Ev ρ 138 (.int .i64 (A.length : Int)) ∧ Ev ρ 139 (.int .i64 (j : Int))) ⟨rfl, ⟨[], [], _, [], [], Row.nil _ _, rfl, by simp, rfl, ii⟩, ii, ii, ii⟩ ?_
    rintro j ρ ds L' hj ⟨rfl, ⟨Z, No, vo, os, xo, hrow, hlat, hos, rfl, e17⟩, e137, e138, e139⟩
    have svo := hrow.sng
    by_cases hlj : j < A.length
    ·obtain ⟨bk, kk, capk, lk, ek, frk, hbe, hbin, hbc, hbn⟩ := hlsG.open (by omega)
     cases hbe
     obtain ⟨cc, hcut, vx, vb, rfl, hvx, hvb, htr⟩ := hbn j hlj
     have q1 := hvx.sng
     have q2 := hvb.sng
     have hji : (j : Int) < A.length := by omega
     have hts : A.take (j + 1) = A.take j ++ [A[j]] := by rw [List.take_add_one, List.getElem?_eq_getElem hlj]; rfl
     have hosl : os.length ≤ 4096 := by
      rw [hos]
      have h3 := List.length_filter_le (fun y : Td => decide (0 ≤ y.to_)) (A.take j)
      rw [List.length_take] at h3
      omega
     clear hbn
     have hym := hsm A[j] (List.getElem_mem hlj)
     generalize A[j] = y at *
     have hbl1 : (y.op.bytes.length : Int) ≤ 9223372036854775807 := hvx.len
     by_cases hto : 0 ≤ y.to_
     ·have hnx : os ++ [y] = (A.take (j + 1)).filter (fun y => decide (0 ≤ y.to_)) := by rw [hts, List.filter_append, ← hos]; simp [hto]
      repeat' (first|refine Gi0 fun _=>?_|refine Hi1 ?_|refine CW.drawsP (id := 11) [0,1,2,3,4,5,6,7,8,9,10,11] mixed (by kernel_rfl) ?_|refine Gi2 (fun _=>?_) fun _=>?_|refine Gi3 ?_|refine Gi4 fun _=>?_|fail)
      rename_i b19
      refine CW.drawsG [0, 1, 4, 5] [2, 6, 3] [8, 9] [7] 10 [11, 12, 13] mixed (by kernel_rfl) ?_
      repeat' (first|refine Gi0 fun _=>?_|refine Gi1 ?_|refine Gi2 (fun _=>?_) fun _=>?_|refine Gi3 ?_|refine Gi4 fun _=>?_|fail)
      refine ⟨[(b19, .cells (tdC y vx vb).toArray 103 (0, 0))], by simp, ?_⟩
      repeat' (first|refine Gi0 fun _=>?_|refine Gi1 ?_|refine Gi2 (fun _=>?_) fun _=>?_|refine Gi3 ?_|refine Gi4 fun _=>?_|fail)
      refine RW.call (cloneB vx y.op.bytes _ hvx.to (by omega)) ?_
      rintro _ _ ⟨NA, rfl, hnA⟩
      rename_i vA
      have sA := hnA.sng
      refine ⟨[(b19, .cells (tdC y vx vb).toArray 103 (0, 0))], fun _ h => h, by simp, ?_⟩
      repeat' (first|refine Gi0 fun _=>?_|refine Gi1 ?_|refine Gi2 (fun _=>?_) fun _=>?_|refine Gi3 ?_|refine Gi4 fun _=>?_|fail)
      intro R1 hR1
      refine ⟨hR1, ?_⟩
      refine RW.call (cloneB vb y.out.bytes _ hvb.to (by omega)) ?_
      rintro _ _ ⟨NB, rfl, hnB⟩
      rename_i vB
      have sB := hnB.sng
      refine ⟨R1, fun _ h => h, fun q h => List.mem_append_right _ (hR1 q h), ?_⟩
      repeat' (first|refine Gi0 fun _=>?_|refine Gi1 ?_|refine Gi2 (fun _=>?_) fun _=>?_|refine Gi3 ?_|refine Gi4 fun _=>?_|fail)
      rename_i bz
      refine OW.append hrow ii (Rd.blk (n := 1) (l := tdC y vA vB) rfl (Nat.le_refl _)) (fun v hv => by
       simp only [tdC, List.mem_cons, List.not_mem_nil, or_false] at hv
       rcases hv with rfl | rfl | rfl | rfl | rfl | rfl | rfl | rfl | rfl | rfl | rfl | rfl | rfl <;> first | infer_instance | assumption) (by omega) (fun v2 N2 hrow2 => ?_)
      have sv2 := hrow2.sng
      repeat' (first|refine Gi0 fun _=>?_|refine Gi1 ?_|refine Gi2 (fun _=>?_) fun _=>?_|refine Gi3 ?_|refine Gi4 fun _=>?_|fail)
      exact ⟨hlj, rfl, ⟨(bz, .cells (tdC y vA vB).toArray 103 (0, 0)) :: (NB ++ (NA ++ ((b19, .cells (tdC y vA vB).toArray 103 (0, 0)) :: Z))), N2, v2, os ++ [y], _, by rw [List.length_append]; exact hrow2,
       (hlat.mono fun c a h => TdAt.to (hm := ⟨fun q hq => by simp only [List.mem_append, List.mem_cons] at hq ⊢; grind⟩) c a h).append (LAt.one rfl ⟨_, _, rfl, BS.to (hm := ⟨fun q hq => by simp [hq]⟩) hnA, BS.to (hm := ⟨fun q hq => by simp [hq]⟩) hnB, htr⟩), hnx, by simp [List.append_assoc], ii⟩, ii, ii, by rw [Int.natCast_add]; infer_instance⟩
     ·have hnx : os = (A.take (j + 1)).filter (fun y => decide (0 ≤ y.to_)) := by rw [hts, List.filter_append, ← hos]; simp [hto]
      repeat' (first|refine Gi0 fun _=>?_|refine Gi1 ?_|refine Gi2 (fun _=>?_) fun _=>?_|refine Gi3 ?_|refine Gi4 fun _=>?_|fail)
      rename_i b19
      exact ⟨hlj, rfl, ⟨(b19, .cells (tdC y vx vb).toArray 103 (0, 0)) :: Z, No, vo, os, xo, hrow, hlat.mono fun c a h => TdAt.to (hm := ⟨fun q hq => by simp [hq]⟩) c a h, hnx, rfl, ii⟩, ii, ii, by rw [Int.natCast_add]; infer_instance⟩
    ·obtain rfl : j = A.length := by omega
     rw [List.take_length] at hos
     rw [← hos]
     have hosl : os.length ≤ 4096 := by
      rw [hos]
      have h3 := List.length_filter_le (fun y : Td => decide (0 ≤ y.to_)) A
      omega
     repeat' (first|refine Gi0 fun _=>?_|refine Gi1 ?_|refine Gi2 (fun _=>?_) fun _=>?_|refine Gi3 ?_|refine Gi4 fun _=>?_|fail)
     refine bodyK.ret (Res.two Tryz.results32) (.inr ⟨rfl, vo, Z ++ (No ++ (X ++ ((bo, .map (List.toArray es) c) :: (bb, .map (List.toArray bs) cb) :: (N ++ (OQ zs ++ [(b5, b5C x)]))))), rfl, by rw [hG0]; simp, ?_⟩)
     refine LS.of_row (D := Z ++ G) hrow hlat (by omega) (fun q hq => by simp [hq]) (fun c a h => TdAt.to (hm := ⟨fun q hq => by
      rw [hG0] at hq
      simp only [List.mem_append, List.mem_cons] at hq ⊢
      grind⟩) c a h)
 ·have hae : askE ts rs x = 2 ∨ askE ts rs x = 3 ∨ askE ts rs x = 311 := by
   unfold askE at hask ⊢
   split
   ·exact .inl rfl
   ·split
    ·exact .inr (.inl rfl)
    ·split
     ·exact .inr (.inr rfl)
     ·rename_i h1 h2 h3
      rw [if_neg h1, if_neg h2, if_neg h3] at hask
      exact absurd rfl hask
  rcases hae with h | h | h
  all_goals
   rw [h]
   repeat' (first|refine Gi0 fun _=>?_|refine Gi1 ?_|refine Gi2 (fun _=>?_) fun _=>?_|refine Gi3 ?_|refine Gi4 fun _=>?_|fail)
   exact bodyK.retD L (Res.two Tryz.results32) (.inl ⟨by decide, rfl, rfl⟩)
end Go.Proofs.YtmnhooepaemlcaaGreat
