/- OrderCalls: true for every input; arguments as before. Part 18. Conditions: none. -/
import Derived.Test.YtmnhooepaemlcaaGreatOC2
import Derived.Test.YtmnhooepaemlcaaGreatOC3
import Derived.Test.YtmnhooepaemlcaaGreatOC17
set_option linter.all false
namespace Go.Proofs.YtmnhooepaemlcaaGreat
open Go Go.Pw Go.Pw.Sc Go.Pw.Md Go.Pw.Jd
set_option maxRecDepth 100000
set_option maxHeartbeats 4000000
set_option synthInstance.maxHeartbeats 400000
set_option synthInstance.maxSize 2000
attribute [local irreducible] CW OW RW thenK blockK
attribute [local irreducible] scopeK loopK TRW ATW
theorem take_step2 {α : Type} {l : List α} {i : Nat} (h : i < l.length) : l.take (i + 1) = l.take i ++ [l[i]] := by rw [List.take_add_one, List.getElem?_eq_getElem h]; rfl
theorem doesSng {k : Int} {v : Value} (hf : findI doesE k = some v) : Sng v := by
 by_cases h2 : k = 2
 ·simp [findI, h2] at hf; subst hf; infer_instance
 by_cases h3 : k = 3
 ·simp [findI, h3] at hf; subst hf; infer_instance
 by_cases h4 : k = 4
 ·simp [findI, h4] at hf; subst hf; infer_instance
 ·simp [findI, h2, h3, h4] at hf
theorem jRead (vl vr : Value) (ts : List Turn) (rs : List Rp) (L : Chunk) (hl : LS 13 TnAt L vl ts) (hr : LS 11 RpAt L vr rs) : Fn1 Tryz.prog 43 [vl, vr] L
  (fun u L' => if ts.length ≠ rs.length then u = .tuple #[.slice none 0 0, .int .i64 2] ∧ L = L' else if 4096 < ts.length then u = .tuple #[.slice none 0 0, .int .i64 3] ∧ L = L' else ∃ N v, u = .tuple #[v, .int .i64 0] ∧ L' = N ++ L ∧ LS 26 RwAt (N ++ L) v (rows (ts.zip rs))) := by
 have hn1 := hl.len
 have hn2 := hr.len
 obtain ⟨al, cl, rfl⟩ := hl.slice
 obtain ⟨ar, cr, rfl⟩ := hr.slice
 intro w0; refine Spec.enter2 Tryz.func43 rfl Tryz.ntmps43 (by decide) ?_
 have z10:DrT 10 (.fork [0, 1, 2, 3, 4, 5, 6, 7, 8] 9 11 (.leaf [10, 11, 12]) (.leaf [9, 10, 12])):=⟨⟨⟩⟩
 repeat' (first|refine Gm0 fun _=>?_|refine Gm1 ?_|refine TRW.fork ?_|refine TRW.leaf ?_|refine TRW.both ?_ ?_|refine Gm2 (fun _=>?_) fun _=>?_|refine Gm3 ?_|refine Gm4 fun _=>?_|fail)
 rename_i bn
 refine OW.call (jBinds _) ?_
 rintro _ _ ⟨bd, rfl, rfl⟩
 by_cases hlen : ts.length = rs.length
 ·have hlen' : (ts.length : Int) = rs.length := by omega
  by_cases hmax : 4096 < ts.length
  ·repeat' (first|refine Gm0 fun _=>?_|refine Gm1 ?_|refine TRW.fork ?_|refine TRW.leaf ?_|refine TRW.both ?_ ?_|refine Gm2 (fun _=>?_) fun _=>?_|refine Gm3 ?_|refine Gm4 fun _=>?_|fail)
   refine bodyK.retD L (Res.two Tryz.results43) ?_
   rw [if_neg fun h => h hlen, if_pos hmax]
   exact ⟨rfl, rfl⟩
  ·have hps : ∃ ps, ps = ts.zip rs := ⟨_, rfl⟩
   obtain ⟨ps, hps⟩ := hps
   have hpl : ps.length = ts.length := by rw [hps, List.length_zip]; omega
   repeat' (first|refine Gm0 fun _=>?_|refine Gm1 ?_|refine TRW.fork ?_|refine TRW.leaf ?_|refine TRW.both ?_ ?_|refine Gm2 (fun _=>?_) fun _=>?_|refine Gm3 ?_|refine Gm4 fun _=>?_|fail)
   refine CW.count ts.length (fun i ρ ds L' => ds = [] ∧ (∃ (X N : Chunk) (w : Value) (xs : List Value) (en : List MapEntry) (cn : Nat), L' = (X ++ (N ++ ((bd, .map doesE.toArray 3) :: (bn, .map (List.toArray en) cn) :: L))) ∧ Row 132 26 N w i xs ∧ LAt 26 (RwAt (X ++ L)) xs (rows (ps.take i)) ∧ KV .i64 en cn ∧ HB en (bnd (ps.take i)) ∧ Ev ρ 4 w) ∧ Ev ρ 0 (.slice al ts.length cl) ∧ Ev ρ 1 (.slice ar rs.length cr) ∧ Ev ρ 6 (.map (some bn)) ∧ Ev ρ 7 (.map (some bd)) ∧ Ev ρ 25 (.int .i64 (ts.length : Int)) ∧ Ev ρ 26 (.int .i64 (i : Int)))
    ⟨rfl, ⟨[], [], .slice none 0 0, [], [], 0, rfl, Row.nil _ _, rfl, KV.nil _, HB.nil, ii⟩, ii, ii, ii, ii, ii, ii⟩ ?_
   rintro i ρ ds L' hi ⟨rfl, ⟨X, N, w, xs, en, cn, rfl, hrow, hlat, hkn, hbn, e4⟩, e0, e1, e6, e7, e25, e26⟩
   have sw := hrow.sng
   by_cases hlt : i < ts.length
   ·have hltr : i < rs.length := by omega
    have hltp : i < ps.length := by omega
    have hlti : (i : Int) < ts.length := by omega
    have hpi : ps[i] = (ts[i], rs[i]) := by subst hps; simp
    have hts := take_step2 hltp
    rw [hpi] at hts
    have hrs : rows (ps.take (i + 1)) = rows (ps.take i) ++ [⟨ts[i], rs[i], (ps.take i).length, bnd (ps.take i)⟩] := by rw [hts, rows_snoc]
    have hbs : bnd (ps.take (i + 1)) = bindStep (bnd (ps.take i)) ts[i] rs[i] := by rw [hts, bnd_snoc]
    have htl : (ps.take i).length = i := by rw [List.length_take]; omega
    obtain ⟨bk, kk, capk, lk, ek, frk, hbe, hbin, hbc, hbx⟩ := hl.open (by omega)
    cases hbe
    obtain ⟨bj, kj, capj, lj, ej, frj, hbe2, hbin2, hbc2, hbx2⟩ := hr.open (by omega)
    cases hbe2
    obtain ⟨cc, hcut, vb, vd, rfl, hvb, hvd, htr⟩ := hbx i hlt
    obtain ⟨cc2, hcut2, vo, rfl, hvo, hrr⟩ := hbx2 i hltr
    have q1 := hvb.sng
    have q2 := hvd.sng
    have q3 := hvo.sng
    repeat' (first|refine Gm0 fun _=>?_|refine Gm1 ?_|refine TRW.fork ?_|refine TRW.leaf ?_|refine TRW.both ?_ ?_|refine Gm2 (fun _=>?_) fun _=>?_|refine Gm3 ?_|refine Gm4 fun _=>?_|fail)
    ·rename_i bi b9 ri
     refine CW.loop (fun k ρ ds L' => ds = [] ∧ (∃ Y ei ci bc seen, L' = Y ++ ((ri, .mapIter (some bn) cn seen cn) :: (b9, .cells (wcells ts[i] rs[i] vb vd vo (i : Int) bi).toArray 132 (0, 0)) :: (bi, .map (List.toArray ei) ci) :: (X ++ (N ++ ((bd, .map doesE.toArray 3) :: (bn, .map (List.toArray en) cn) :: L)))) ∧ KV .i64 ei ci ∧ HB ei bc ∧ (∀ n, bc n = none ∨ bc n = bnd (ps.take i) n) ∧ (∀ e ∈ en, seen.contains e.born = true → bc (kI e.key) = bnd (ps.take i) (kI e.key)) ∧ k = (en.filter fun x => !seen.contains x.born).length) ∧
      Ev ρ 0 (.slice (some ⟨bk, kk, none⟩) ts.length cl) ∧ Ev ρ 1 (.slice (some ⟨bj, kj, none⟩) rs.length cr) ∧ Ev ρ 4 w ∧ Ev ρ 6 (.map (some bn)) ∧ Ev ρ 7 (.map (some bd)) ∧ Ev ρ 25 (.int .i64 (ts.length : Int)) ∧ Ev ρ 26 (.int .i64 (i : Int)) ∧ Ev ρ 8 (.int .i64 (i : Int)) ∧ Ev ρ 9 (.pointer (some ⟨b9, 0, none⟩)) ∧ Ev ρ 41 (.pointer (some ⟨ri, 0, none⟩))) en.length
      ⟨rfl, ⟨[], [], 0, fun _ => none, #[], rfl, KV.nil _, HB.nil, fun _ => .inl rfl, fun e _ h => by simp at h, by rw [List.filter_eq_self.2 (fun e _ => by simp)]⟩, ii, ii, ii, ii, ii, ii, ii, ii, ii, ii⟩ ?_
     clear e0 e1 e4 e6 e7 e25 e26
     rintro k ρ ds L' ⟨rfl, ⟨Y, ei, ci, bc, seen, rfl, hki, hbi, hsub, hseen, rfl⟩, e0, e1, e4, e6, e7, e25, e26, e8, e9, e41⟩
     repeat' (first|refine Gm0 fun _=>?_|refine Gm1 ?_|refine TRW.fork ?_|refine TRW.leaf ?_|refine TRW.both ?_ ?_|refine Gm2 (fun _=>?_) fun _=>?_|refine Gm3 ?_|refine Gm4 fun _=>?_|fail)
     refine OW.nextZ (r := ri) (m := bn) (since := cn) (c0 := cn) (clock := cn) (seen := seen) (es := en) (zs := en.map fun e => (e, ())) hkn (by rw [List.map_map]; exact (List.map_id en).symm) leftU (fun e he => hkn.old e he) (Nat.le_refl _) (fun h => ?_) (fun A' z B' htz hz' hl' => ?_)
     ·have hall : ∀ e ∈ en, seen.contains e.born = true := fun e he => by
       cases hc : seen.contains e.born with
       | true => rfl
       | false =>
        have : (e, ()) ∈ (en.filter fun x => !seen.contains x.born).map fun e => (e, ()) := List.mem_map.2 ⟨e, List.mem_filter.2 ⟨he, by rw [hc]; rfl⟩, rfl⟩
        rw [h] at this
        cases this
      have hbc : bc = bnd (ps.take i) := funext fun n => by
       rcases hsub n with h1 | h1
       ·cases h2 : bnd (ps.take i) n with
        | none => exact h1
        | some y =>
         have h3 := hbn n
         rw [h2] at h3
         obtain ⟨P1, e, P2, q1, q2, q3⟩ := hkn.some_of h3
         have hm : e ∈ en := by rw [q1]; simp
         have h4 := hseen e hm (hall e hm)
         rw [show kI e.key = n by rw [q2]; rfl, h2] at h4
         exact h4
       ·exact h1
      subst hbc
      repeat' (first|refine Gm0 fun _=>?_|refine Gm1 ?_|refine TRW.fork ?_|refine TRW.leaf ?_|refine TRW.both ?_ ?_|refine Gm2 (fun _=>?_) fun _=>?_|refine Gm3 ?_|refine Gm4 fun _=>?_|fail)
      rename_i bt
      refine OW.append hrow ii (Rd.blk (n := 1) (l := wcells ts[i] rs[i] vb vd vo (i : Int) bi) rfl (Nat.le_refl _)) (fun z hz => by
       simp only [wcells, List.mem_cons, List.not_mem_nil, or_false] at hz
       rcases hz with rfl | rfl | rfl | rfl | rfl | rfl | rfl | rfl | rfl | rfl | rfl | rfl | rfl | rfl | rfl | rfl | rfl | rfl | rfl | rfl | rfl | rfl | rfl | rfl | rfl | rfl <;> infer_instance) (by omega) (fun w' N' hrow' => ?_)
      have sw' := hrow'.sng
      have hrowN : Row 132 26 N' w' (i + 1) (xs ++ (wcells ts[i] rs[i] vb vd vo (i : Int) bi)) := hrow'
      have hlatN : LAt 26 (RwAt ((bt, .cells (wcells ts[i] rs[i] vb vd vo (i : Int) bi).toArray 132 (0, 0)) :: (Y ++ ((ri, .mapIter (some bn) cn seen cn) :: (b9, .cells (wcells ts[i] rs[i] vb vd vo (i : Int) bi).toArray 132 (0, 0)) :: (bi, .map (List.toArray ei) ci) :: X)) ++ L)) (xs ++ (wcells ts[i] rs[i] vb vd vo (i : Int) bi)) (rows (ps.take (i + 1))) := by
       rw [hrs]
       refine LAt.append (hlat.mono fun c a h => RwAt.to (hm := ⟨fun q hq => ?_⟩) c a h) (LAt.one rfl ⟨vb, vd, vo, bi, by simp [htl], BS.to (hm := ⟨fun q hq => by simp [hq]⟩) hvb, BS.to (hm := ⟨fun q hq => by simp [hq]⟩) hvd, BS.to (hm := ⟨fun q hq => by simp [hq]⟩) hvo, htr, hrr, ei, ci, ⟨by simp⟩, hki, hbi⟩)
       simp only [List.mem_append] at hq
       rcases hq with h | h <;> simp [h]
      repeat' (first|refine Gm0 fun _=>?_|refine Gm1 ?_|refine TRW.fork ?_|refine TRW.leaf ?_|refine TRW.both ?_ ?_|refine Gm2 (fun _=>?_) fun _=>?_|refine Gm3 ?_|refine Gm4 fun _=>?_|fail)
      refine OW.lookOk (m := bd) (c := 3) (es := doesE) doesKeys (fun f hf => ?_) (fun hf => ?_)
      ·have sf := doesSng hf
       by_cases he : rs[i].errno = 0
       ·repeat' (first|refine Gm0 fun _=>?_|refine Gm1 ?_|refine TRW.fork ?_|refine TRW.leaf ?_|refine TRW.both ?_ ?_|refine Gm2 (fun _=>?_) fun _=>?_|refine Gm3 ?_|refine Gm4 fun _=>?_|fail)
        refine OW.call (jThread _ _) ?_
        rintro _ _ ⟨rfl, rfl⟩
        by_cases hth : isThread ts[i].thread
        ·rw [decide_eq_true hth]
         repeat' (first|refine Gm0 fun _=>?_|refine Gm1 ?_|refine TRW.fork ?_|refine TRW.leaf ?_|refine TRW.both ?_ ?_|refine Gm2 (fun _=>?_) fun _=>?_|refine Gm3 ?_|refine Gm4 fun _=>?_|fail)
         refine OW.callV1 (doesVP ts[i] rs[i] vb vd vo (i : Int) bi bn (bnd (ps.take i)) _ en cn _ q1 q2 q3 ii hkn hbn he (.inl hth) hf) ?_
         rintro _ _ ⟨en', cn', rfl, hkn', hbn'⟩
         repeat' (first|refine Gm0 fun _=>?_|refine Gm1 ?_|refine TRW.fork ?_|refine TRW.leaf ?_|refine TRW.both ?_ ?_|refine Gm2 (fun _=>?_) fun _=>?_|refine Gm3 ?_|refine Gm4 fun _=>?_|fail)
         refine ⟨hlt, rfl, ⟨_, N', w', _, en', cn', ?_, hrowN, hlatN, hkn', ?_, ii⟩, ii, ii, ii, ii, ii, by rw [Int.natCast_add]; infer_instance⟩
         ·simp only [List.append_assoc, List.cons_append, List.nil_append]
         ·rw [hbs]; exact hbn'
        ·rw [decide_eq_false hth]
         by_cases h2 : ts[i].kind = 2
         ·repeat' (first|refine Gm0 fun _=>?_|refine Gm1 ?_|refine TRW.fork ?_|refine TRW.leaf ?_|refine TRW.both ?_ ?_|refine Gm2 (fun _=>?_) fun _=>?_|refine Gm3 ?_|refine Gm4 fun _=>?_|fail)
          refine OW.callV1 (doesVP ts[i] rs[i] vb vd vo (i : Int) bi bn (bnd (ps.take i)) _ en cn _ q1 q2 q3 ii hkn hbn he (.inr h2) hf) ?_
          rintro _ _ ⟨en', cn', rfl, hkn', hbn'⟩
          repeat' (first|refine Gm0 fun _=>?_|refine Gm1 ?_|refine TRW.fork ?_|refine TRW.leaf ?_|refine TRW.both ?_ ?_|refine Gm2 (fun _=>?_) fun _=>?_|refine Gm3 ?_|refine Gm4 fun _=>?_|fail)
          refine ⟨hlt, rfl, ⟨_, N', w', _, en', cn', ?_, hrowN, hlatN, hkn', ?_, ii⟩, ii, ii, ii, ii, ii, by rw [Int.natCast_add]; infer_instance⟩
          ·simp only [List.append_assoc, List.cons_append, List.nil_append]
          ·rw [hbs]; exact hbn'
         ·repeat' (first|refine Gm0 fun _=>?_|refine Gm1 ?_|refine TRW.fork ?_|refine TRW.leaf ?_|refine TRW.both ?_ ?_|refine Gm2 (fun _=>?_) fun _=>?_|refine Gm3 ?_|refine Gm4 fun _=>?_|fail)
          refine ⟨hlt, rfl, ⟨_, N', w', _, en, cn, ?_, hrowN, hlatN, hkn, ?_, ii⟩, ii, ii, ii, ii, ii, by rw [Int.natCast_add]; infer_instance⟩
          ·simp only [List.append_assoc, List.cons_append, List.nil_append]
          ·rw [hbs, step_none (.inl fun h => h.2.elim hth h2)]; exact hbn
       ·repeat' (first|refine Gm0 fun _=>?_|refine Gm1 ?_|refine TRW.fork ?_|refine TRW.leaf ?_|refine TRW.both ?_ ?_|refine Gm2 (fun _=>?_) fun _=>?_|refine Gm3 ?_|refine Gm4 fun _=>?_|fail)
        refine ⟨hlt, rfl, ⟨_, N', w', _, en, cn, ?_, hrowN, hlatN, hkn, ?_, ii⟩, ii, ii, ii, ii, ii, by rw [Int.natCast_add]; infer_instance⟩
        ·simp only [List.append_assoc, List.cons_append, List.nil_append]
        ·rw [hbs, step_none (.inl fun h => he h.1)]; exact hbn
      ·repeat' (first|refine Gm0 fun _=>?_|refine Gm1 ?_|refine TRW.fork ?_|refine TRW.leaf ?_|refine TRW.both ?_ ?_|refine Gm2 (fun _=>?_) fun _=>?_|refine Gm3 ?_|refine Gm4 fun _=>?_|fail)
       refine ⟨hlt, rfl, ⟨_, N', w', _, en, cn, ?_, hrowN, hlatN, hkn, ?_, ii⟩, ii, ii, ii, ii, ii, by rw [Int.natCast_add]; infer_instance⟩
       ·simp only [List.append_assoc, List.cons_append, List.nil_append]
       ·rw [hbs, step_none (.inr (doesNone hf))]; exact hbn
     ·obtain ⟨z1, ⟨⟩⟩ := z
      have hze : z1 ∈ en := by simpa using hz'
      obtain ⟨kz, hkz⟩ := hkn.keys z1 hze
      have hfz := hkn.find_of hze
      have hkI : kI z1.key = kz := by rw [hkz]; rfl
      rw [hkI] at hfz
      have hbz := hbn kz
      rw [hfz] at hbz
      obtain ⟨y, hy, hyv⟩ : ∃ y, bnd (ps.take i) kz = some y ∧ z1.val = hdV y := by
       cases hbk : bnd (ps.take i) kz with
       | none => rw [hbk] at hbz; cases hbz
       | some y => rw [hbk] at hbz; exact ⟨y, rfl, by simpa using hbz⟩
      have hlen3 : (en.filter fun x => !seen.contains x.born).length = (A' ++ (z1, ()) :: B').length := by rw [← htz, List.length_map]
      have hlen2 : ((en.filter fun x => !(seen.push z1.born).contains x.born).map fun e => (e, ())) = A' ++ B' := by
       have := leftU (es := en) (seen := seen.push z1.born)
       unfold LeftZ at this hl'
       rw [this, hl']
      have hlen4 := congrArg List.length hlen2
      rw [List.length_map] at hlen4
      repeat' (first|refine Gm0 fun _=>?_|refine Gm1 ?_|refine TRW.fork ?_|refine TRW.leaf ?_|refine TRW.both ?_ ?_|refine Gm2 (fun _=>?_) fun _=>?_|refine Gm3 ?_|refine Gm4 fun _=>?_|fail)
      refine OW.entryE (r := ri) (m := bn) (since := cn) (c := cn) (seen := seen) (e := z1) hkn hze ?_
      rw [hkz, hyv]
      repeat' (first|refine Gm0 fun _=>?_|refine Gm1 ?_|refine TRW.fork ?_|refine TRW.leaf ?_|refine TRW.both ?_ ?_|refine Gm2 (fun _=>?_) fun _=>?_|refine Gm3 ?_|refine Gm4 fun _=>?_|fail)
      refine OW.mapPut (m := bi) (k := .i64) (j := kz) (u := hdV y) (c := ci) (es := ei) hki ?_
      repeat' (first|refine Gm0 fun _=>?_|refine Gm1 ?_|refine TRW.fork ?_|refine TRW.leaf ?_|refine TRW.both ?_ ?_|refine Gm2 (fun _=>?_) fun _=>?_|refine Gm3 ?_|refine Gm4 fun _=>?_|fail)
      refine ⟨(en.filter fun x => !(seen.push z1.born).contains x.born).length, by rw [hlen4, hlen3]; simp, rfl, ⟨_ :: Y, (putE .i64 kz (hdV y) ei ci).1, (putE .i64 kz (hdV y) ei ci).2, fun n => if n = kz then some y else bc n, seen.push z1.born, rfl, hki.put, hbi.put hki kz y, fun n => ?_, fun e he hs => ?_, rfl⟩, ii, ii, ii, ii, ii, ii, ii, ii, ii, ii⟩
      ·by_cases hn : n = kz
       ·subst hn
        right
        simp only [if_true]
        exact hy.symm
       ·simp only [if_neg hn]; exact hsub n
      ·by_cases hn : kI e.key = kz
       ·simp only [if_pos hn]
        rw [hn, hy]
       ·simp only [if_neg hn]
        refine hseen e he ?_
        simp only [Array.contains_push, Bool.or_eq_true, beq_iff_eq] at hs
        have hnb : ¬ e.born = z1.born := fun h => hn (by rw [inj_of hkn.births e he z1 hze h]; exact hkI)
        rcases hs with hs | hs
        ·first | exact hs | exact absurd hs hnb
        ·first | exact hs | exact absurd hs hnb
    ·rename_i b9 bi ri
     refine CW.perm (List.Perm.cons _ (List.Perm.swap _ _ _)) ?_
     refine CW.loop (fun k ρ ds L' => ds = [] ∧ (∃ Y ei ci bc seen, L' = Y ++ ((ri, .mapIter (some bn) cn seen cn) :: (b9, .cells (wcells ts[i] rs[i] vb vd vo (i : Int) bi).toArray 132 (0, 0)) :: (bi, .map (List.toArray ei) ci) :: (X ++ (N ++ ((bd, .map doesE.toArray 3) :: (bn, .map (List.toArray en) cn) :: L)))) ∧ KV .i64 ei ci ∧ HB ei bc ∧ (∀ n, bc n = none ∨ bc n = bnd (ps.take i) n) ∧ (∀ e ∈ en, seen.contains e.born = true → bc (kI e.key) = bnd (ps.take i) (kI e.key)) ∧ k = (en.filter fun x => !seen.contains x.born).length) ∧
      Ev ρ 0 (.slice (some ⟨bk, kk, none⟩) ts.length cl) ∧ Ev ρ 1 (.slice (some ⟨bj, kj, none⟩) rs.length cr) ∧ Ev ρ 4 w ∧ Ev ρ 6 (.map (some bn)) ∧ Ev ρ 7 (.map (some bd)) ∧ Ev ρ 25 (.int .i64 (ts.length : Int)) ∧ Ev ρ 26 (.int .i64 (i : Int)) ∧ Ev ρ 8 (.int .i64 (i : Int)) ∧ Ev ρ 9 (.pointer (some ⟨b9, 0, none⟩)) ∧ Ev ρ 41 (.pointer (some ⟨ri, 0, none⟩))) en.length
      ⟨rfl, ⟨[], [], 0, fun _ => none, #[], rfl, KV.nil _, HB.nil, fun _ => .inl rfl, fun e _ h => by simp at h, by rw [List.filter_eq_self.2 (fun e _ => by simp)]⟩, ii, ii, ii, ii, ii, ii, ii, ii, ii, ii⟩ ?_
     clear e0 e1 e4 e6 e7 e25 e26
     rintro k ρ ds L' ⟨rfl, ⟨Y, ei, ci, bc, seen, rfl, hki, hbi, hsub, hseen, rfl⟩, e0, e1, e4, e6, e7, e25, e26, e8, e9, e41⟩
     repeat' (first|refine Gm0 fun _=>?_|refine Gm1 ?_|refine TRW.fork ?_|refine TRW.leaf ?_|refine TRW.both ?_ ?_|refine Gm2 (fun _=>?_) fun _=>?_|refine Gm3 ?_|refine Gm4 fun _=>?_|fail)
     refine OW.nextZ (r := ri) (m := bn) (since := cn) (c0 := cn) (clock := cn) (seen := seen) (es := en) (zs := en.map fun e => (e, ())) hkn (by rw [List.map_map]; exact (List.map_id en).symm) leftU (fun e he => hkn.old e he) (Nat.le_refl _) (fun h => ?_) (fun A' z B' htz hz' hl' => ?_)
     ·have hall : ∀ e ∈ en, seen.contains e.born = true := fun e he => by
       cases hc : seen.contains e.born with
       | true => rfl
       | false =>
        have : (e, ()) ∈ (en.filter fun x => !seen.contains x.born).map fun e => (e, ()) := List.mem_map.2 ⟨e, List.mem_filter.2 ⟨he, by rw [hc]; rfl⟩, rfl⟩
        rw [h] at this
        cases this
      have hbc : bc = bnd (ps.take i) := funext fun n => by
       rcases hsub n with h1 | h1
       ·cases h2 : bnd (ps.take i) n with
        | none => exact h1
        | some y =>
         have h3 := hbn n
         rw [h2] at h3
         obtain ⟨P1, e, P2, q1, q2, q3⟩ := hkn.some_of h3
         have hm : e ∈ en := by rw [q1]; simp
         have h4 := hseen e hm (hall e hm)
         rw [show kI e.key = n by rw [q2]; rfl, h2] at h4
         exact h4
       ·exact h1
      subst hbc
      repeat' (first|refine Gm0 fun _=>?_|refine Gm1 ?_|refine TRW.fork ?_|refine TRW.leaf ?_|refine TRW.both ?_ ?_|refine Gm2 (fun _=>?_) fun _=>?_|refine Gm3 ?_|refine Gm4 fun _=>?_|fail)
      rename_i bt
      refine OW.append hrow ii (Rd.blk (n := 1) (l := wcells ts[i] rs[i] vb vd vo (i : Int) bi) rfl (Nat.le_refl _)) (fun z hz => by
       simp only [wcells, List.mem_cons, List.not_mem_nil, or_false] at hz
       rcases hz with rfl | rfl | rfl | rfl | rfl | rfl | rfl | rfl | rfl | rfl | rfl | rfl | rfl | rfl | rfl | rfl | rfl | rfl | rfl | rfl | rfl | rfl | rfl | rfl | rfl | rfl <;> infer_instance) (by omega) (fun w' N' hrow' => ?_)
      have sw' := hrow'.sng
      have hrowN : Row 132 26 N' w' (i + 1) (xs ++ (wcells ts[i] rs[i] vb vd vo (i : Int) bi)) := hrow'
      have hlatN : LAt 26 (RwAt ((bt, .cells (wcells ts[i] rs[i] vb vd vo (i : Int) bi).toArray 132 (0, 0)) :: (Y ++ ((ri, .mapIter (some bn) cn seen cn) :: (b9, .cells (wcells ts[i] rs[i] vb vd vo (i : Int) bi).toArray 132 (0, 0)) :: (bi, .map (List.toArray ei) ci) :: X)) ++ L)) (xs ++ (wcells ts[i] rs[i] vb vd vo (i : Int) bi)) (rows (ps.take (i + 1))) := by
       rw [hrs]
       refine LAt.append (hlat.mono fun c a h => RwAt.to (hm := ⟨fun q hq => ?_⟩) c a h) (LAt.one rfl ⟨vb, vd, vo, bi, by simp [htl], BS.to (hm := ⟨fun q hq => by simp [hq]⟩) hvb, BS.to (hm := ⟨fun q hq => by simp [hq]⟩) hvd, BS.to (hm := ⟨fun q hq => by simp [hq]⟩) hvo, htr, hrr, ei, ci, ⟨by simp⟩, hki, hbi⟩)
       simp only [List.mem_append] at hq
       rcases hq with h | h <;> simp [h]
      repeat' (first|refine Gm0 fun _=>?_|refine Gm1 ?_|refine TRW.fork ?_|refine TRW.leaf ?_|refine TRW.both ?_ ?_|refine Gm2 (fun _=>?_) fun _=>?_|refine Gm3 ?_|refine Gm4 fun _=>?_|fail)
      refine OW.lookOk (m := bd) (c := 3) (es := doesE) doesKeys (fun f hf => ?_) (fun hf => ?_)
      ·have sf := doesSng hf
       by_cases he : rs[i].errno = 0
       ·repeat' (first|refine Gm0 fun _=>?_|refine Gm1 ?_|refine TRW.fork ?_|refine TRW.leaf ?_|refine TRW.both ?_ ?_|refine Gm2 (fun _=>?_) fun _=>?_|refine Gm3 ?_|refine Gm4 fun _=>?_|fail)
        refine OW.call (jThread _ _) ?_
        rintro _ _ ⟨rfl, rfl⟩
        by_cases hth : isThread ts[i].thread
        ·rw [decide_eq_true hth]
         repeat' (first|refine Gm0 fun _=>?_|refine Gm1 ?_|refine TRW.fork ?_|refine TRW.leaf ?_|refine TRW.both ?_ ?_|refine Gm2 (fun _=>?_) fun _=>?_|refine Gm3 ?_|refine Gm4 fun _=>?_|fail)
         refine OW.callV1 (doesVP ts[i] rs[i] vb vd vo (i : Int) bi bn (bnd (ps.take i)) _ en cn _ q1 q2 q3 ii hkn hbn he (.inl hth) hf) ?_
         rintro _ _ ⟨en', cn', rfl, hkn', hbn'⟩
         repeat' (first|refine Gm0 fun _=>?_|refine Gm1 ?_|refine TRW.fork ?_|refine TRW.leaf ?_|refine TRW.both ?_ ?_|refine Gm2 (fun _=>?_) fun _=>?_|refine Gm3 ?_|refine Gm4 fun _=>?_|fail)
         refine ⟨hlt, rfl, ⟨_, N', w', _, en', cn', ?_, hrowN, hlatN, hkn', ?_, ii⟩, ii, ii, ii, ii, ii, by rw [Int.natCast_add]; infer_instance⟩
         ·simp only [List.append_assoc, List.cons_append, List.nil_append]
         ·rw [hbs]; exact hbn'
        ·rw [decide_eq_false hth]
         by_cases h2 : ts[i].kind = 2
         ·repeat' (first|refine Gm0 fun _=>?_|refine Gm1 ?_|refine TRW.fork ?_|refine TRW.leaf ?_|refine TRW.both ?_ ?_|refine Gm2 (fun _=>?_) fun _=>?_|refine Gm3 ?_|refine Gm4 fun _=>?_|fail)
          refine OW.callV1 (doesVP ts[i] rs[i] vb vd vo (i : Int) bi bn (bnd (ps.take i)) _ en cn _ q1 q2 q3 ii hkn hbn he (.inr h2) hf) ?_
          rintro _ _ ⟨en', cn', rfl, hkn', hbn'⟩
          repeat' (first|refine Gm0 fun _=>?_|refine Gm1 ?_|refine TRW.fork ?_|refine TRW.leaf ?_|refine TRW.both ?_ ?_|refine Gm2 (fun _=>?_) fun _=>?_|refine Gm3 ?_|refine Gm4 fun _=>?_|fail)
          refine ⟨hlt, rfl, ⟨_, N', w', _, en', cn', ?_, hrowN, hlatN, hkn', ?_, ii⟩, ii, ii, ii, ii, ii, by rw [Int.natCast_add]; infer_instance⟩
          ·simp only [List.append_assoc, List.cons_append, List.nil_append]
          ·rw [hbs]; exact hbn'
         ·repeat' (first|refine Gm0 fun _=>?_|refine Gm1 ?_|refine TRW.fork ?_|refine TRW.leaf ?_|refine TRW.both ?_ ?_|refine Gm2 (fun _=>?_) fun _=>?_|refine Gm3 ?_|refine Gm4 fun _=>?_|fail)
          refine ⟨hlt, rfl, ⟨_, N', w', _, en, cn, ?_, hrowN, hlatN, hkn, ?_, ii⟩, ii, ii, ii, ii, ii, by rw [Int.natCast_add]; infer_instance⟩
          ·simp only [List.append_assoc, List.cons_append, List.nil_append]
          ·rw [hbs, step_none (.inl fun h => h.2.elim hth h2)]; exact hbn
       ·repeat' (first|refine Gm0 fun _=>?_|refine Gm1 ?_|refine TRW.fork ?_|refine TRW.leaf ?_|refine TRW.both ?_ ?_|refine Gm2 (fun _=>?_) fun _=>?_|refine Gm3 ?_|refine Gm4 fun _=>?_|fail)
        refine ⟨hlt, rfl, ⟨_, N', w', _, en, cn, ?_, hrowN, hlatN, hkn, ?_, ii⟩, ii, ii, ii, ii, ii, by rw [Int.natCast_add]; infer_instance⟩
        ·simp only [List.append_assoc, List.cons_append, List.nil_append]
        ·rw [hbs, step_none (.inl fun h => he h.1)]; exact hbn
      ·repeat' (first|refine Gm0 fun _=>?_|refine Gm1 ?_|refine TRW.fork ?_|refine TRW.leaf ?_|refine TRW.both ?_ ?_|refine Gm2 (fun _=>?_) fun _=>?_|refine Gm3 ?_|refine Gm4 fun _=>?_|fail)
       refine ⟨hlt, rfl, ⟨_, N', w', _, en, cn, ?_, hrowN, hlatN, hkn, ?_, ii⟩, ii, ii, ii, ii, ii, by rw [Int.natCast_add]; infer_instance⟩
       ·simp only [List.append_assoc, List.cons_append, List.nil_append]
       ·rw [hbs, step_none (.inr (doesNone hf))]; exact hbn
     ·obtain ⟨z1, ⟨⟩⟩ := z
      have hze : z1 ∈ en := by simpa using hz'
      obtain ⟨kz, hkz⟩ := hkn.keys z1 hze
      have hfz := hkn.find_of hze
      have hkI : kI z1.key = kz := by rw [hkz]; rfl
      rw [hkI] at hfz
      have hbz := hbn kz
      rw [hfz] at hbz
      obtain ⟨y, hy, hyv⟩ : ∃ y, bnd (ps.take i) kz = some y ∧ z1.val = hdV y := by
       cases hbk : bnd (ps.take i) kz with
       | none => rw [hbk] at hbz; cases hbz
       | some y => rw [hbk] at hbz; exact ⟨y, rfl, by simpa using hbz⟩
      have hlen3 : (en.filter fun x => !seen.contains x.born).length = (A' ++ (z1, ()) :: B').length := by rw [← htz, List.length_map]
      have hlen2 : ((en.filter fun x => !(seen.push z1.born).contains x.born).map fun e => (e, ())) = A' ++ B' := by
       have := leftU (es := en) (seen := seen.push z1.born)
       unfold LeftZ at this hl'
       rw [this, hl']
      have hlen4 := congrArg List.length hlen2
      rw [List.length_map] at hlen4
      repeat' (first|refine Gm0 fun _=>?_|refine Gm1 ?_|refine TRW.fork ?_|refine TRW.leaf ?_|refine TRW.both ?_ ?_|refine Gm2 (fun _=>?_) fun _=>?_|refine Gm3 ?_|refine Gm4 fun _=>?_|fail)
      refine OW.entryE (r := ri) (m := bn) (since := cn) (c := cn) (seen := seen) (e := z1) hkn hze ?_
      rw [hkz, hyv]
      repeat' (first|refine Gm0 fun _=>?_|refine Gm1 ?_|refine TRW.fork ?_|refine TRW.leaf ?_|refine TRW.both ?_ ?_|refine Gm2 (fun _=>?_) fun _=>?_|refine Gm3 ?_|refine Gm4 fun _=>?_|fail)
      refine OW.mapPut (m := bi) (k := .i64) (j := kz) (u := hdV y) (c := ci) (es := ei) hki ?_
      repeat' (first|refine Gm0 fun _=>?_|refine Gm1 ?_|refine TRW.fork ?_|refine TRW.leaf ?_|refine TRW.both ?_ ?_|refine Gm2 (fun _=>?_) fun _=>?_|refine Gm3 ?_|refine Gm4 fun _=>?_|fail)
      refine ⟨(en.filter fun x => !(seen.push z1.born).contains x.born).length, by rw [hlen4, hlen3]; simp, rfl, ⟨_ :: Y, (putE .i64 kz (hdV y) ei ci).1, (putE .i64 kz (hdV y) ei ci).2, fun n => if n = kz then some y else bc n, seen.push z1.born, rfl, hki.put, hbi.put hki kz y, fun n => ?_, fun e he hs => ?_, rfl⟩, ii, ii, ii, ii, ii, ii, ii, ii, ii, ii⟩
      ·by_cases hn : n = kz
       ·subst hn
        right
        simp only [if_true]
        exact hy.symm
       ·simp only [if_neg hn]; exact hsub n
      ·by_cases hn : kI e.key = kz
       ·simp only [if_pos hn]
        rw [hn, hy]
       ·simp only [if_neg hn]
        refine hseen e he ?_
        simp only [Array.contains_push, Bool.or_eq_true, beq_iff_eq] at hs
        have hnb : ¬ e.born = z1.born := fun h => hn (by rw [inj_of hkn.births e he z1 hze h]; exact hkI)
        rcases hs with hs | hs
        ·first | exact hs | exact absurd hs hnb
        ·first | exact hs | exact absurd hs hnb
   ·obtain rfl : i = ts.length := by omega
    have hall : ps.take ts.length = ps := List.take_of_length_le (by omega)
    rw [hall] at hlat
    repeat' (first|refine Gm0 fun _=>?_|refine Gm1 ?_|refine TRW.fork ?_|refine TRW.leaf ?_|refine TRW.both ?_ ?_|refine Gm2 (fun _=>?_) fun _=>?_|refine Gm3 ?_|refine Gm4 fun _=>?_|fail)
    refine bodyK.ret (Res.two Tryz.results43) ?_
    rw [if_neg fun h => h hlen, if_neg hmax, ← hps]
    refine ⟨X ++ (N ++ [(bd, .map doesE.toArray 3), (bn, .map (List.toArray en) cn)]), w, rfl, by simp, ⟨xs, ?_, hlat.mono fun c a h => RwAt.to (hm := ⟨fun q hq => ?_⟩) c a h⟩, by rw [rows_length]; omega⟩
    ·rw [rows_length, hpl]
     exact hrow.rd.mono fun q hq => by simp [hq]
    ·simp only [List.mem_append] at hq ⊢
     rcases hq with h | h <;> simp [h]
 ·have hlen' : ¬ (ts.length : Int) = rs.length := by omega
  repeat' (first|refine Gm0 fun _=>?_|refine Gm1 ?_|refine TRW.fork ?_|refine TRW.leaf ?_|refine TRW.both ?_ ?_|refine Gm2 (fun _=>?_) fun _=>?_|refine Gm3 ?_|refine Gm4 fun _=>?_|fail)
  refine bodyK.retD L (Res.two Tryz.results43) ?_
  rw [if_pos hlen]
  exact ⟨rfl, rfl⟩
end Go.Proofs.YtmnhooepaemlcaaGreat
