/- OrderCalls: true for every input; arguments as before. Part 29. Conditions: none. -/
import Derived.Test.YtmnhooepaemlcaaGreatOC2
import Derived.Test.YtmnhooepaemlcaaGreatOC28
set_option linter.all false
namespace Go.Proofs.YtmnhooepaemlcaaGreat
open Go Go.Pw Go.Pw.Sc Go.Pw.Md Go.Pw.Jd Go.Pw.Or
set_option maxRecDepth 100000
set_option maxHeartbeats 4000000
set_option synthInstance.maxHeartbeats 400000
set_option synthInstance.maxSize 2000
attribute [local irreducible] CW OW RW thenK blockK
attribute [local irreducible] scopeK loopK TRW ATW
@[reducible] def nowC (g : Int → Hd) : Obj := .cells (hv g).toArray 179 (0, 0)
theorem nowC_congr {g g' : Int → Hd} (h : ∀ n, 0 ≤ n → n < 4 → g n = g' n) : nowC g = nowC g' := by rw [nowC, nowC, hv_congr h]
theorem rBound (vl vr : Value) (ts : List Turn) (rs : List Rp) (L : Chunk) (hl : LS 13 TnAt L vl ts) (hr : LS 11 RpAt L vr rs) (hlen : ts.length = rs.length) (hb : ts.length ≤ 4096) :
  Fn1 Tryz.prog 78 [vl, vr] L (fun u L' => ∃ N, L' = N ++ L ∧ LS 8 HvAt (N ++ L) u (bounds (ts.zip rs) ts.length)) := by
 obtain ⟨al, cl, hal⟩ := hl.slice
 obtain ⟨ar, cr, har⟩ := hr.slice
 subst hal har
 have hll : (ts.length : Int) ≤ 4096 := by omega
 intro w0; refine Spec.enter2 Tryz.func78 rfl Tryz.ntmps78 (by decide) ?_
 have z13:DrP 13 [0,1,2,3,4,5,6,7,8]:=⟨⟨⟩⟩; have z20:DrS 20 6 [0,1,2,3,4,5,6,7,8,9,10,11]:=⟨⟨⟩⟩
 generalize hW : ts.zip rs = W at *
 have hWl : W.length = ts.length := by rw [← hW, List.length_zip, ← hlen, Nat.min_self]
 repeat' (first|refine Gi0 fun _=>?_|refine Gi1 ?_|refine Gi2 (fun _=>?_) fun _=>?_|refine Gi3 ?_|refine Gi4 fun _=>?_|fail)
 rename_i b6
 refine CW.count ts.length (fun i ρ ds L' => ds = [] ∧ (∃ X N v xs, Row 179 8 N v i xs ∧ LAt 8 (HvAt []) xs (bounds W i) ∧ L' = X ++ (N ++ ((b6, nowC (gB (bnd (W.take i)))) :: L)) ∧ Ev ρ 5 v) ∧
   Ev ρ 0 (.slice al ts.length cl) ∧ Ev ρ 1 (.slice ar rs.length cr) ∧ Ev ρ 6 (ptr b6) ∧ Ev ρ 7 (.int .i64 (i : Int))) ⟨rfl, ⟨[], [], _, [], Row.nil _ _, rfl, rfl, ii⟩, ii, ii, ii, ii⟩ ?_
 rintro i ρ ds L' hi ⟨rfl, ⟨X, N, v, xs, hrow, hlat, rfl, e5⟩, e0, e1, e6, e7⟩
 have sv := hrow.sng
 by_cases hlt : i < ts.length
 ·have hWi : i < W.length := by omega
  have hri : i < rs.length := by omega
  obtain ⟨bk, kk, capk, lk, ek, frk, hbe, hbin, hbc, hbn⟩ := hl.open (by omega)
  cases hbe
  obtain ⟨bj, kj, capj, lj, ej, frj, hbe, hbinj, hbcj, hbnj⟩ := hr.open (by omega)
  cases hbe
  obtain ⟨cc, hcut, vb, vd, rfl, hvb, hvd, htr⟩ := hbn i hlt
  obtain ⟨cc, hcutj, vo, rfl, hvo, hrr⟩ := hbnj i (by omega)
  have hW1 : W[i] = (ts[i], rs[i]) := by subst hW; simp
  obtain ⟨_, hbt⟩ := rows_take hWi
  rw [hW1] at hbt
  simp only at hbt
  have g0 : NthL lj (kj + i * 11) (.int .i64 rs[i].errno) := nth_cut 0 hcutj rfl
  have g2 : NthL lk (kk + i * 13) (.int .i64 ts[i].kind) := nth_cut 0 hcut rfl
  have g3 : NthL lk (kk + i * 13 + 3) (.int .i64 ts[i].thread) := nth_cut 3 hcut rfl
  have g4 : CutL lk (kk + i * 13 + 4) 2 [.int .i64 ts[i].hslot, .int .i64 ts[i].hgen] := cutSub hcut 4 2 (by decide)
  clear hbn hbnj hW1
  generalize ts[i] = t at *
  generalize rs[i] = r at *
  generalize hBe : bnd (W.take i) = B at *
  have hlti : (i : Int) < ts.length := by omega
  have hltj : (i : Int) < rs.length := by omega
  have hlat2 : LAt 8 (HvAt []) (xs ++ hv (gB B)) (bounds W (i + 1)) := by
   rw [bounds_snoc, hBe]
   exact hlat.append (LAt.one rfl rfl)
  have hsv : ∀ u ∈ hv (gB B), Sng u := fun u hq => by
   simp only [hv, List.mem_cons, List.not_mem_nil, or_false] at hq
   rcases hq with rfl | rfl | rfl | rfl | rfl | rfl | rfl | rfl <;> infer_instance
  by_cases c2 : r.errno = 0
  ·by_cases k2 : t.kind = 2
   ·repeat' (first|refine Gi0 fun _=>?_|refine Gi1 ?_|refine Gi2 (fun _=>?_) fun _=>?_|refine Gi3 ?_|refine Gi4 fun _=>?_|fail)
    rename_i b17
    refine OW.append hrow ii (Rd.blk (n := 1) (l := hv (gB B)) rfl (Nat.le_refl _)) hsv (by omega) (fun v2 N2 hrow2 => ?_)
    have sv2 := hrow2.sng
    repeat' (first|refine Gi0 fun _=>?_|refine Gi1 ?_|refine Gi2 (fun _=>?_) fun _=>?_|refine Gi3 ?_|refine Gi4 fun _=>?_|fail)
    have hg := (congrArg gB hbt).trans (gB_destroy c2 k2)
    generalize hh : ((t.hslot, t.hgen) : Hd) = h at *
    refine CW.count 4 (fun k ρ ds L' => ds = [] ∧ L' = ((b17, .cells (hv (gB B)).toArray 179 (0, 0)) :: X) ++ (N2 ++ ((b6, nowC (fun n => if n < k ∧ gB B n = h then (0, 0) else gB B n)) :: L)) ∧ Ev ρ 5 v2 ∧
      Ev ρ 0 (.slice (some ⟨bk, kk, none⟩) ts.length cl) ∧ Ev ρ 1 (.slice (some ⟨bj, kj, none⟩) rs.length cr) ∧ Ev ρ 6 (ptr b6) ∧ Ev ρ 7 (.int .i64 (i : Int)) ∧ Ev ρ 8 (.int .i64 (k : Int))) ⟨rfl, ?_, ii, ii, ii, ii, ii, ii⟩ ?_
    ·rw [show nowC (fun n => if n < ((0 : Nat) : Int) ∧ gB B n = h then (0, 0) else gB B n) = nowC (gB B) by rw [nowC, hv_congr (g' := gB B) (fun n h1 h2 => if_neg (fun g => by omega))]]
     rfl
    rintro k ρ ds L' hk ⟨rfl, rfl, e5, e0, e1, e6, e7, e8⟩
    by_cases hk4 : k < 4
    ·have hka : 0 ≤ (k : Int) ∧ (k : Int) < 4 := by omega
     have hnext : nowC (fun n => if n < ((k + 1 : Nat) : Int) ∧ gB B n = h then (0, 0) else gB B n) = nowC (fun n => if n = (k : Int) then (if gB B k = h then (0, 0) else gB B k) else (if n < (k : Int) ∧ gB B n = h then (0, 0) else gB B n)) := nowC_congr fun n h1 h2 => by
      by_cases e : n = (k : Int)
      ·subst e
       rw [if_pos rfl]
       by_cases e2 : gB B k = h
       ·rw [if_pos ⟨by omega, e2⟩, if_pos e2]
       ·rw [if_neg (fun g => e2 g.2), if_neg e2]
      ·rw [if_neg e]
       by_cases e2 : n < (k : Int) ∧ gB B n = h
       ·rw [if_pos e2, if_pos ⟨by omega, e2.2⟩]
       ·rw [if_neg e2, if_neg (fun g => e2 ⟨by omega, g.2⟩)]
     have hcutG := hv_cut (fun n => if n < (k : Int) ∧ gB B n = h then (0, 0) else gB B n) hka
     have hputG := hv_put (fun n => if n < (k : Int) ∧ gB B n = h then (0, 0) else gB B n) (0, 0) hka
     simp only [Int.toNat_natCast, Int.lt_irrefl, false_and, if_false] at hcutG hputG
     rw [hnext]
     have hputN : nowC (fun n => if n = (k : Int) then gB B k else if n < (k : Int) ∧ gB B n = h then (0, 0) else gB B n) = nowC (fun n => if n < (k : Int) ∧ gB B n = h then (0, 0) else gB B n) := nowC_congr fun n h1 h2 => by
      by_cases e : n = (k : Int)
      ·subst e; rw [if_pos rfl, if_neg (fun g => by omega)]
      ·rw [if_neg e]
     generalize (fun n : Int => if n < (k : Int) ∧ gB B n = h then ((0, 0) : Hd) else gB B n) = G at *
     generalize gB B k = y at *
     by_cases c : y.1 = t.hslot ∧ y.2 = t.hgen
     ·have c' : y = h := by rw [← hh]; exact Prod.ext c.1 c.2
      repeat' (first|refine Gi0 fun _=>?_|refine Gi1 ?_|refine Gi2 (fun _=>?_) fun _=>?_|refine Gi3 ?_|refine Gi4 fun _=>?_|fail)
      exact ⟨hk4, rfl, by rw [if_pos c'], ii, ii, ii, ii, ii, by rw [Int.natCast_add]; infer_instance⟩
     ·have c' : ¬ y = h := fun e => c (by rw [e, ← hh]; exact ⟨rfl, rfl⟩)
      repeat' (first|refine Gi0 fun _=>?_|refine Gi1 ?_|refine Gi2 (fun _=>?_) fun _=>?_|refine Gi3 ?_|refine Gi4 fun _=>?_|fail)
      exact ⟨hk4, rfl, by rw [if_neg c', hputN], ii, ii, ii, ii, ii, by rw [Int.natCast_add]; infer_instance⟩
    ·obtain rfl : k = 4 := by omega
     have h4 : nowC (fun n => if n < ((4 : Nat) : Int) ∧ gB B n = h then (0, 0) else gB B n) = nowC (gB (bnd (W.take (i + 1)))) := nowC_congr fun n h1 h2 => by
      rw [hg]
      by_cases e : gB B n = h
      ·rw [if_pos ⟨by omega, e⟩]; simp only; rw [if_pos e]
      ·rw [if_neg (fun g => e g.2)]; simp only; rw [if_neg e]
     rw [h4]
     repeat' (first|refine Gi0 fun _=>?_|refine Gi1 ?_|refine Gi2 (fun _=>?_) fun _=>?_|refine Gi3 ?_|refine Gi4 fun _=>?_|fail)
     exact ⟨hlt, rfl, ⟨_ :: X, N2, v2, _, hrow2, hlat2, rfl, ii⟩, ii, ii, ii, by rw [Int.natCast_add]; infer_instance⟩
   ·by_cases k3 : t.kind = 3
    ·by_cases hth : 0 ≤ t.thread ∧ t.thread < 4
     ·have hg := congrArg nowC ((congrArg gB hbt).trans (gB_bind c2 k3 hth))
      have hg2 : nowC (gB (bnd (W.take (i + 1)))) = nowC (fun n => if n = t.thread then (t.hslot, t.hgen) else if n = t.thread then (0, 0) else gB B n) := by
       rw [hg]
       exact nowC_congr fun n _ _ => by by_cases e : n = t.thread <;> simp [e]
      have hput1 : PutL (hv (gB B)) (t.thread.toNat * 2) [.int .i64 0, .int .i64 0] _ := hv_put (gB B) (0, 0) hth
      have hput2 : PutL _ (t.thread.toNat * 2) [.int .i64 t.hslot, .int .i64 t.hgen] _ := hv_put (fun n => if n = t.thread then (0, 0) else gB B n) (t.hslot, t.hgen) hth
      obtain ⟨hth1, hth2⟩ := hth
      repeat' (first|refine Gi0 fun _=>?_|refine Gi1 ?_|refine Gi2 (fun _=>?_) fun _=>?_|refine Gi3 ?_|refine Gi4 fun _=>?_|fail)
      rename_i b17
      refine OW.append hrow ii (Rd.blk (n := 1) (l := hv (gB B)) rfl (Nat.le_refl _)) hsv (by omega) (fun v2 N2 hrow2 => ?_)
      have sv2 := hrow2.sng
      repeat' (first|refine Gi0 fun _=>?_|refine Gi1 ?_|refine Gi2 (fun _=>?_) fun _=>?_|refine Gi3 ?_|refine Gi4 fun _=>?_|fail)
      refine OW.call (dkThread t.thread _) ?_
      rintro _ _ ⟨rfl, rfl⟩
      rw [decide_eq_true (show 0 ≤ t.thread ∧ t.thread < 4 from ⟨hth1, hth2⟩)]
      repeat' (first|refine Gi0 fun _=>?_|refine Gi1 ?_|refine Gi2 (fun _=>?_) fun _=>?_|refine Gi3 ?_|refine Gi4 fun _=>?_|fail)
      exact ⟨hlt, rfl, ⟨_ :: X, N2, v2, _, hrow2, hlat2, by rw [hg2] <;> rfl, ii⟩, ii, ii, ii, by rw [Int.natCast_add]; infer_instance⟩
     ·have hg := congrArg nowC ((congrArg gB hbt).trans (gB_other k2 (fun g => hth g.2) (fun g => hth g.2)))
      repeat' (first|refine Gi0 fun _=>?_|refine Gi1 ?_|refine Gi2 (fun _=>?_) fun _=>?_|refine Gi3 ?_|refine Gi4 fun _=>?_|fail)
      rename_i b17
      refine OW.append hrow ii (Rd.blk (n := 1) (l := hv (gB B)) rfl (Nat.le_refl _)) hsv (by omega) (fun v2 N2 hrow2 => ?_)
      have sv2 := hrow2.sng
      repeat' (first|refine Gi0 fun _=>?_|refine Gi1 ?_|refine Gi2 (fun _=>?_) fun _=>?_|refine Gi3 ?_|refine Gi4 fun _=>?_|fail)
      refine OW.call (dkThread t.thread _) ?_
      rintro _ _ ⟨rfl, rfl⟩
      rw [decide_eq_false hth]
      repeat' (first|refine Gi0 fun _=>?_|refine Gi1 ?_|refine Gi2 (fun _=>?_) fun _=>?_|refine Gi3 ?_|refine Gi4 fun _=>?_|fail)
      exact ⟨hlt, rfl, ⟨_ :: X, N2, v2, _, hrow2, hlat2, by rw [hg] <;> rfl, ii⟩, ii, ii, ii, by rw [Int.natCast_add]; infer_instance⟩
    ·by_cases k4 : t.kind = 4
     ·by_cases hth : 0 ≤ t.thread ∧ t.thread < 4
      ·have hg := congrArg nowC ((congrArg gB hbt).trans (gB_unbind c2 k4 hth))
       have hput1 : PutL (hv (gB B)) (t.thread.toNat * 2) [.int .i64 0, .int .i64 0] _ := hv_put (gB B) (0, 0) hth
       obtain ⟨hth1, hth2⟩ := hth
       repeat' (first|refine Gi0 fun _=>?_|refine Gi1 ?_|refine Gi2 (fun _=>?_) fun _=>?_|refine Gi3 ?_|refine Gi4 fun _=>?_|fail)
       rename_i b17
       refine OW.append hrow ii (Rd.blk (n := 1) (l := hv (gB B)) rfl (Nat.le_refl _)) hsv (by omega) (fun v2 N2 hrow2 => ?_)
       have sv2 := hrow2.sng
       repeat' (first|refine Gi0 fun _=>?_|refine Gi1 ?_|refine Gi2 (fun _=>?_) fun _=>?_|refine Gi3 ?_|refine Gi4 fun _=>?_|fail)
       refine OW.call (dkThread t.thread _) ?_
       rintro _ _ ⟨rfl, rfl⟩
       rw [decide_eq_true (show 0 ≤ t.thread ∧ t.thread < 4 from ⟨hth1, hth2⟩)]
       repeat' (first|refine Gi0 fun _=>?_|refine Gi1 ?_|refine Gi2 (fun _=>?_) fun _=>?_|refine Gi3 ?_|refine Gi4 fun _=>?_|fail)
       exact ⟨hlt, rfl, ⟨_ :: X, N2, v2, _, hrow2, hlat2, by rw [hg] <;> rfl, ii⟩, ii, ii, ii, by rw [Int.natCast_add]; infer_instance⟩
      ·have hg := congrArg nowC ((congrArg gB hbt).trans (gB_other k2 (fun g => hth g.2) (fun g => hth g.2)))
       repeat' (first|refine Gi0 fun _=>?_|refine Gi1 ?_|refine Gi2 (fun _=>?_) fun _=>?_|refine Gi3 ?_|refine Gi4 fun _=>?_|fail)
       rename_i b17
       refine OW.append hrow ii (Rd.blk (n := 1) (l := hv (gB B)) rfl (Nat.le_refl _)) hsv (by omega) (fun v2 N2 hrow2 => ?_)
       have sv2 := hrow2.sng
       repeat' (first|refine Gi0 fun _=>?_|refine Gi1 ?_|refine Gi2 (fun _=>?_) fun _=>?_|refine Gi3 ?_|refine Gi4 fun _=>?_|fail)
       refine OW.call (dkThread t.thread _) ?_
       rintro _ _ ⟨rfl, rfl⟩
       rw [decide_eq_false hth]
       repeat' (first|refine Gi0 fun _=>?_|refine Gi1 ?_|refine Gi2 (fun _=>?_) fun _=>?_|refine Gi3 ?_|refine Gi4 fun _=>?_|fail)
       exact ⟨hlt, rfl, ⟨_ :: X, N2, v2, _, hrow2, hlat2, by rw [hg] <;> rfl, ii⟩, ii, ii, ii, by rw [Int.natCast_add]; infer_instance⟩
     ·have hg := congrArg nowC ((congrArg gB hbt).trans (gB_other k2 (fun g => k3 g.1) (fun g => k4 g.1)))
      repeat' (first|refine Gi0 fun _=>?_|refine Gi1 ?_|refine Gi2 (fun _=>?_) fun _=>?_|refine Gi3 ?_|refine Gi4 fun _=>?_|fail)
      rename_i b17
      refine OW.append hrow ii (Rd.blk (n := 1) (l := hv (gB B)) rfl (Nat.le_refl _)) hsv (by omega) (fun v2 N2 hrow2 => ?_)
      have sv2 := hrow2.sng
      repeat' (first|refine Gi0 fun _=>?_|refine Gi1 ?_|refine Gi2 (fun _=>?_) fun _=>?_|refine Gi3 ?_|refine Gi4 fun _=>?_|fail)
      exact ⟨hlt, rfl, ⟨_ :: X, N2, v2, _, hrow2, hlat2, by rw [hg] <;> rfl, ii⟩, ii, ii, ii, by rw [Int.natCast_add]; infer_instance⟩
  ·have hg := congrArg nowC ((congrArg gB hbt).trans (gB_bad c2))
   repeat' (first|refine Gi0 fun _=>?_|refine Gi1 ?_|refine Gi2 (fun _=>?_) fun _=>?_|refine Gi3 ?_|refine Gi4 fun _=>?_|fail)
   rename_i b17
   refine OW.append hrow ii (Rd.blk (n := 1) (l := hv (gB B)) rfl (Nat.le_refl _)) hsv (by omega) (fun v2 N2 hrow2 => ?_)
   have sv2 := hrow2.sng
   repeat' (first|refine Gi0 fun _=>?_|refine Gi1 ?_|refine Gi2 (fun _=>?_) fun _=>?_|refine Gi3 ?_|refine Gi4 fun _=>?_|fail)
   exact ⟨hlt, rfl, ⟨_ :: X, N2, v2, _, hrow2, hlat2, by rw [hg] <;> rfl, ii⟩, ii, ii, ii, by rw [Int.natCast_add]; infer_instance⟩
 ·obtain rfl : i = ts.length := by omega
  repeat' (first|refine Gi0 fun _=>?_|refine Gi1 ?_|refine Gi2 (fun _=>?_) fun _=>?_|refine Gi3 ?_|refine Gi4 fun _=>?_|fail)
  refine bodyK.ret (Res.one Tryz.results78) ⟨X ++ (N ++ [(b6, nowC (gB (bnd (W.take ts.length))))]), by simp, ?_⟩
  have hrow' : Row 179 8 N v (bounds W ts.length).length xs := by rw [bounds_length]; exact hrow
  exact LS.of_row (D := []) hrow' hlat (by rw [bounds_length]; omega) (fun q hq => by simp [hq]) (fun c a h => h)
end Go.Proofs.YtmnhooepaemlcaaGreat
