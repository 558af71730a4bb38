/- OrderCalls: true for every input; arguments as before. Part 30. Conditions: none. -/
import Derived.Test.YtmnhooepaemlcaaGreatOC2
import Derived.Test.YtmnhooepaemlcaaGreatOC29
set_option linter.all false
namespace Go.Proofs.YtmnhooepaemlcaaGreat
open Go Go.Pw Go.Pw.Sc Go.Pw.Md Go.Pw.Jd Go.Pw.Or
set_option maxRecDepth 100000
set_option maxHeartbeats 4000000
set_option synthInstance.maxHeartbeats 400000
set_option synthInstance.maxSize 2000
attribute [local irreducible] CW OW RW thenK blockK
attribute [local irreducible] scopeK loopK TRW ATW
structure Rc where
 op : OpM
 work : Int
 told : Bool
 out : OutM
 steps : Int
@[reducible] def rcC (x : Rc) (vx vb : Value) : List Value := [.int .i64 x.op.kind, .int .u32 x.op.ad, .int .u64 x.op.size, .int .u64 x.op.mult, .int .u64 x.op.many, vx, .int .i64 x.work, .bool x.told, .int .i64 x.out.errno, .int .u32 x.out.ad, .int .i64 x.out.n, vb, .int .i64 x.steps]
structure RcR (x : Rc) : Prop where
 op : OpR0 x.op
 out : OutR0 x.out
 work : inR .i64 x.work
 steps : inR .i64 x.steps
def RcAt (L : Chunk) (c : List Value) (x : Rc) : Prop := ∃ vx vb, c = rcC x vx vb ∧ BS L vx x.op.bytes ∧ BS L vb x.out.bytes ∧ RcR x
theorem RcAt.to {L L' : Chunk} [hm : MemC L L'] (c : List Value) (x : Rc) (h : RcAt L c x) : RcAt L' c x := let ⟨a, b, e, h1, h2, h3⟩ := h; ⟨a, b, e, h1.to, h2.to, h3⟩
theorem rCalls (vl vr : Value) (ts : List Turn) (rs : List Rp) (x : Hd) (L : Chunk) (hl : LS 13 TnAt L vl ts) (hr : LS 11 RpAt L vr rs) (hx : inR .i64 x.1 ∧ inR .i64 x.2) (hlen : ts.length = rs.length) (hb : ts.length ≤ 4096) :
  Fn1 Tryz.prog 130 [vl, vr, hdV x] L (fun u L' => ∃ N os, L' = N ++ L ∧ LS 13 RcAt (N ++ L) u os ∧ os.length ≤ 4096) := by
 obtain ⟨al, cl, hal⟩ := hl.slice
 obtain ⟨ar, cr, har⟩ := hr.slice
 subst hal har
 have hll : (ts.length : Int) ≤ 4096 := by omega
 intro w0; refine Spec.enter3 Tryz.func130 rfl Tryz.ntmps130 (by decide) ?_
 have z7:DrP 7 [0,1,2,3,4,5,6,7,8,9,10,11,12,13,14,15,16,17,18,19,20,21,22,23,24,25,26,27,28]:=⟨⟨⟩⟩; have z10:DrP 10 [0,1,2,3,4,5,6,7,8,9,10,11,12,13,14,15,16,17,18]:=⟨⟨⟩⟩; have z19:DrS 19 11 [0,1,2,3,4,5]:=⟨⟨⟩⟩
 repeat' (first|refine Gi0 fun _=>?_|refine Gi1 ?_|refine Gi2 (fun _=>?_) fun _=>?_|refine Gi3 ?_|refine Gi4 fun _=>?_|fail)
 rename_i b5
 refine OW.call (rBound _ _ ts rs _ (LS.to hl (fun c a h => TnAt.to c a h)) (LS.to hr (fun c a h => RpAt.to c a h)) hlen hb) ?_
 rintro vB _ ⟨NB, rfl, hB⟩
 have hgs := bounds_length (ts.zip rs) ts.length
 generalize bounds (ts.zip rs) ts.length = gs at *
 have sB := hB.sng
 obtain ⟨aB, cB, hvB⟩ := hB.slice
 subst hvB
 repeat' (first|refine Gi0 fun _=>?_|refine Gi1 ?_|refine Gi2 (fun _=>?_) fun _=>?_|refine Gi3 ?_|refine Gi4 fun _=>?_|fail)
 refine CW.count ts.length (fun i ρ ds L' => ds = [] ∧ (∃ X N v os xs, Row 248 13 N v os.length xs ∧ LAt 13 (RcAt L) xs os ∧ os.length ≤ i ∧ L' = X ++ (N ++ (NB ++ ((b5, b5C x) :: L))) ∧ Ev ρ 8 v) ∧
   Ev ρ 0 (.slice al ts.length cl) ∧ Ev ρ 1 (.slice ar rs.length cr) ∧ Ev ρ 5 (ptr b5) ∧ Ev ρ 7 (.slice aB gs.length cB) ∧ Ev ρ 9 (.int .i64 (i : Int))) ⟨rfl, ⟨[], [], _, [], [], Row.nil _ _, rfl, Nat.le_refl _, rfl, ii⟩, ii, ii, ii, ii, ii⟩ ?_
 rintro i ρ ds L' hi ⟨rfl, ⟨X, N, v, os, xs, hrow, hlat, hol, rfl, e8⟩, e0, e1, e5, e7, e9⟩
 have sv := hrow.sng
 by_cases hlt : i < ts.length
 ·obtain ⟨bk, kk, capk, lk, ek, frk, hbe, hbin, hbc, hbn⟩ := hl.open (by omega)
  cases hbe
  obtain ⟨bj, kj, capj, lj, ej, frj, hbe, hbinj, hbcj, hbnj⟩ := hr.open (by omega)
  cases hbe
  obtain ⟨bg, kg, capg, lg, eg, frg, hbe, hbing, hbcg, hbng⟩ := hB.open (by omega)
  cases hbe
  obtain ⟨cc, hcut, vb, vd, rfl, hvb, hvd, htr⟩ := hbn i hlt
  obtain ⟨cc, hcutj, vo, rfl, hvo, hrr⟩ := hbnj i (by omega)
  obtain ⟨cc, hcutg, hg⟩ := hbng i (by omega)
  have hg : cc = hv gs[i] := hg
  subst hg
  have g0 : NthL lj (kj + i * 11) (.int .i64 rs[i].errno) := nth_cut 0 hcutj rfl
  have g2 : NthL lk (kk + i * 13) (.int .i64 ts[i].kind) := nth_cut 0 hcut rfl
  have g3 : NthL lk (kk + i * 13 + 3) (.int .i64 ts[i].thread) := nth_cut 3 hcut rfl
  have gop : CutL lk (kk + i * 13 + 6) 6 [.int .i64 ts[i].okind, .int .u32 ts[i].oat, .int .u64 ts[i].osize, .int .u64 ts[i].omult, .int .u64 ts[i].omany, vb] := cutSub hcut 6 6 (by decide)
  generalize ts[i] = t at *
  generalize rs[i] = r at *
  generalize gs[i] = g at *
  have hlti : (i : Int) < ts.length := by omega
  have hltj : (i : Int) < rs.length := by omega
  have hltg : (i : Int) < gs.length := by omega
  have q1 := hvb.sng
  by_cases c1 : t.kind = 5
  ·by_cases c2 : r.errno = 0
   ·repeat' (first|refine Gi0 fun _=>?_|refine Gi1 ?_|refine Gi2 (fun _=>?_) fun _=>?_|refine Gi3 ?_|refine Gi4 fun _=>?_|fail)
    refine RW.call (dkThread t.thread _) ?_
    rintro _ _ ⟨rfl, rfl⟩
    refine pinAll ?_
    by_cases hth : 0 ≤ t.thread ∧ t.thread < 4
    ·rw [decide_eq_true hth]
     have gg : CutL lg (kg + i * 8 + t.thread.toNat * 2) 2 _ := cut_cut hcutg (hv_cut g hth)
     obtain ⟨hth1, hth2⟩ := id hth
     by_cases c3 : (g t.thread).1 = x.1 ∧ (g t.thread).2 = x.2
     ·repeat' (first|refine Gi0 fun _=>?_|refine Gi1 ?_|refine Gi2 (fun _=>?_) fun _=>?_|refine Gi3 ?_|refine Gi4 fun _=>?_|fail)
      rw [decide_eq_true c3, Bool.not_true]
      repeat' (first|refine Gi0 fun _=>?_|refine Gi1 ?_|refine Gi2 (fun _=>?_) fun _=>?_|refine Gi3 ?_|refine Gi4 fun _=>?_|fail)
      rename_i b11
      have hop : OpR0 (opOf t) := ⟨htr.okind, htr.oat, htr.osize, htr.omult, htr.omany⟩
      refine CW.loopE 2 (fun ρ ds L' => ds = [] ∧ (∃ Z y vb2, BS L vb y.op.bytes ∧ BS L vb2 y.out.bytes ∧ RcR y ∧ L' = Z ++ ((b11, .cells (rcC y vb vb2).toArray 248 (0, 0)) :: (X ++ (N ++ (NB ++ ((b5, b5C x) :: L)))))) ∧
        Ev ρ 0 (.slice (some ⟨bk, kk, none⟩) ts.length cl) ∧ Ev ρ 1 (.slice (some ⟨bj, kj, none⟩) rs.length cr) ∧ Ev ρ 5 (ptr b5) ∧ Ev ρ 7 (.slice (some ⟨bg, kg, none⟩) gs.length cB) ∧ Ev ρ 8 v ∧ Ev ρ 9 (.int .i64 (i : Int)) ∧ Ev ρ 11 (ptr b11))
       (fun m ρ ds L' => ds = [] ∧ (∃ (k : Nat) (Z : Chunk) (y : Rc) (vb2 : Value), m + k = ts.length ∧ i < k ∧ BS L vb y.op.bytes ∧ BS L vb2 y.out.bytes ∧ RcR y ∧ 0 ≤ y.steps ∧ y.steps ≤ k ∧ L' = Z ++ ((b11, .cells (rcC y vb vb2).toArray 248 (0, 0)) :: (X ++ (N ++ (NB ++ ((b5, b5C x) :: L))))) ∧ Ev ρ 12 (.int .i64 (k : Int))) ∧
        Ev ρ 0 (.slice (some ⟨bk, kk, none⟩) ts.length cl) ∧ Ev ρ 1 (.slice (some ⟨bj, kj, none⟩) rs.length cr) ∧ Ev ρ 5 (ptr b5) ∧ Ev ρ 7 (.slice (some ⟨bg, kg, none⟩) gs.length cB) ∧ Ev ρ 8 v ∧ Ev ρ 9 (.int .i64 (i : Int)) ∧ Ev ρ 10 (.int .i64 t.thread) ∧ Ev ρ 11 (ptr b11))
       (ts.length - (i + 1)) ⟨rfl, ⟨i + 1, [], ⟨opOf t, -1, false, outZ, 0⟩, .slice none 0 0, by omega, by omega, hvb, BS.nil L, ⟨hop, ⟨show inR .i64 0 by decide, show inR .u32 0 by decide, show inR .i64 0 by decide⟩, show inR .i64 (-1) by decide, show inR .i64 0 by decide⟩, Int.le_refl _, Int.natCast_nonneg _, rfl, by rw [Int.natCast_add]; infer_instance⟩, ii, ii, ii, ii, ii, ii, ii, ii⟩ ?_ ?_
      ·rintro m ρ ds L' ⟨rfl, ⟨k, Z, y, vb2, hmk, hik, hvy, hvb2, hyr, hst1, hst2, rfl, e12⟩, e0, e1, e5, e7, e8, e9, e10, e11⟩
       have q2 := hvb2.sng
       by_cases hk : k < ts.length
       ·have hki : (k : Int) < ts.length := by omega
        have hkj : (k : Int) < rs.length := by omega
        have hkg : (k : Int) < gs.length := by omega
        have hs2 : y.steps ≤ ((k + 1 : Nat) : Int) := by omega
        have hs0 : 0 ≤ y.steps + 1 := by omega
        have hs1 : y.steps + 1 ≤ ((k + 1 : Nat) : Int) := by omega
        have hsR : inR .i64 (y.steps + 1) := by constructor <;> omega
        have hkR : inR .i64 ((k : Nat) : Int) := by constructor <;> omega
        have hks : y.steps ≤ 4096 := by omega
        cases ht : y.told with
        | true =>
         repeat' (first|refine Gi0 fun _=>?_|refine Gi1 ?_|refine Gi2 (fun _=>?_) fun _=>?_|refine Gi3 ?_|refine Gi4 fun _=>?_|fail)
         rw [ht, Bool.not_true]
         repeat' (first|refine Gi0 fun _=>?_|refine Gi1 ?_|refine Gi2 (fun _=>?_) fun _=>?_|refine Gi3 ?_|refine Gi4 fun _=>?_|fail)
         exact exitK_to ⟨rfl, ⟨Z, y, vb2, hvy, hvb2, hyr, rfl⟩, ii, ii, ii, ii, ii, ii, ii⟩
        | false =>
         obtain ⟨cc, hcut2, vb', vd', rfl, hvb', hvd', htr'⟩ := hbn k hk
         obtain ⟨cc, hcutj2, vo', rfl, hvo', hrr'⟩ := hbnj k (by omega)
         obtain ⟨cc, hcutg2, hg2⟩ := hbng k (by omega)
         have hg2 : cc = hv gs[k] := hg2
         subst hg2
         have g0' : NthL lj (kj + k * 11) (.int .i64 rs[k].errno) := nth_cut 0 hcutj2 rfl
         have g2' : NthL lk (kk + k * 13) (.int .i64 ts[k].kind) := nth_cut 0 hcut2 rfl
         have g3' : NthL lk (kk + k * 13 + 3) (.int .i64 ts[k].thread) := nth_cut 3 hcut2 rfl
         have gdid : CutL lj (kj + k * 11 + 4) 7 [.int .i64 rs[k].dkind, .int .i64 rs[k].dat, .bool rs[k].done, .int .i64 rs[k].oerrno, .int .u32 rs[k].oad, .int .i64 rs[k].on, vo'] := cutSub hcutj2 4 7 (by decide)
         clear hbn hbnj hbng
         generalize ts[k] = t' at *
         generalize rs[k] = r' at *
         generalize gs[k] = g' at *
         have q3 := hvo'.sng
         have hor : OutR0 (outOf r') := ⟨hrr'.oerrno, hrr'.oad, hrr'.on⟩
         have gg' : CutL lg (kg + k * 8 + t.thread.toNat * 2) 2 _ := cut_cut hcutg2 (hv_cut g' hth)
         by_cases c4 : (g' t.thread).1 = x.1 ∧ (g' t.thread).2 = x.2
         ·by_cases d1 : t'.thread = t.thread
          ·by_cases d2 : r'.errno = 0
           ·by_cases d3 : t'.kind = 6
            ·by_cases f1 : r'.dkind = 1
             ·cases hd : r'.done with
              | true =>
               rw [hd] at gdid
               repeat' (first|refine Gi0 fun _=>?_|refine Gi1 ?_|refine Gi2 (fun _=>?_) fun _=>?_|refine Gi3 ?_|refine Gi4 fun _=>?_|fail)
               rw [ht, Bool.not_false]
               repeat' (first|refine Gi0 fun _=>?_|refine Gi1 ?_|refine Gi2 (fun _=>?_) fun _=>?_|refine Gi3 ?_|refine Gi4 fun _=>?_|fail)
               exact ⟨m - 1, by omega, rfl, ⟨k + 1, _ :: Z, ⟨y.op, y.work, true, outOf r', y.steps⟩, vo', by omega, by omega, hvy, hvo', ⟨hyr.op, hor, hyr.work, hyr.steps⟩, hst1, hs2, rfl, by rw [Int.natCast_add]; infer_instance⟩, ii, ii, ii, ii, ii, ii, ii, ii⟩
              | false =>
               rw [hd] at gdid
               repeat' (first|refine Gi0 fun _=>?_|refine Gi1 ?_|refine Gi2 (fun _=>?_) fun _=>?_|refine Gi3 ?_|refine Gi4 fun _=>?_|fail)
               rw [ht, Bool.not_false]
               repeat' (first|refine Gi0 fun _=>?_|refine Gi1 ?_|refine Gi2 (fun _=>?_) fun _=>?_|refine Gi3 ?_|refine Gi4 fun _=>?_|fail)
               exact ⟨m - 1, by omega, rfl, ⟨k + 1, _ :: Z, ⟨y.op, y.work, y.told, y.out, y.steps⟩, vb2, by omega, by omega, hvy, hvb2, ⟨hyr.op, hyr.out, hyr.work, hyr.steps⟩, hst1, hs2, rfl, by rw [Int.natCast_add]; infer_instance⟩, ii, ii, ii, ii, ii, ii, ii, ii⟩
             ·by_cases f3 : r'.dkind = 3
              ·by_cases f4 : y.work < 0
               ·cases hd : r'.done with
                | true =>
                 rw [hd] at gdid
                 repeat' (first|refine Gi0 fun _=>?_|refine Gi1 ?_|refine Gi2 (fun _=>?_) fun _=>?_|refine Gi3 ?_|refine Gi4 fun _=>?_|fail)
                 rw [ht, Bool.not_false]
                 repeat' (first|refine Gi0 fun _=>?_|refine Gi1 ?_|refine Gi2 (fun _=>?_) fun _=>?_|refine Gi3 ?_|refine Gi4 fun _=>?_|fail)
                 exact ⟨m - 1, by omega, rfl, ⟨k + 1, _ :: Z, ⟨y.op, (k : Int), true, outOf r', y.steps + 1⟩, vo', by omega, by omega, hvy, hvo', ⟨hyr.op, hor, hkR, hsR⟩, hs0, hs1, rfl, by rw [Int.natCast_add]; infer_instance⟩, ii, ii, ii, ii, ii, ii, ii, ii⟩
                | false =>
                 rw [hd] at gdid
                 repeat' (first|refine Gi0 fun _=>?_|refine Gi1 ?_|refine Gi2 (fun _=>?_) fun _=>?_|refine Gi3 ?_|refine Gi4 fun _=>?_|fail)
                 rw [ht, Bool.not_false]
                 repeat' (first|refine Gi0 fun _=>?_|refine Gi1 ?_|refine Gi2 (fun _=>?_) fun _=>?_|refine Gi3 ?_|refine Gi4 fun _=>?_|fail)
                 exact ⟨m - 1, by omega, rfl, ⟨k + 1, _ :: Z, ⟨y.op, (k : Int), y.told, y.out, y.steps + 1⟩, vb2, by omega, by omega, hvy, hvb2, ⟨hyr.op, hyr.out, hkR, hsR⟩, hs0, hs1, rfl, by rw [Int.natCast_add]; infer_instance⟩, ii, ii, ii, ii, ii, ii, ii, ii⟩
               ·cases hd : r'.done with
                | true =>
                 rw [hd] at gdid
                 repeat' (first|refine Gi0 fun _=>?_|refine Gi1 ?_|refine Gi2 (fun _=>?_) fun _=>?_|refine Gi3 ?_|refine Gi4 fun _=>?_|fail)
                 rw [ht, Bool.not_false]
                 repeat' (first|refine Gi0 fun _=>?_|refine Gi1 ?_|refine Gi2 (fun _=>?_) fun _=>?_|refine Gi3 ?_|refine Gi4 fun _=>?_|fail)
                 exact ⟨m - 1, by omega, rfl, ⟨k + 1, _ :: Z, ⟨y.op, y.work, true, outOf r', y.steps + 1⟩, vo', by omega, by omega, hvy, hvo', ⟨hyr.op, hor, hyr.work, hsR⟩, hs0, hs1, rfl, by rw [Int.natCast_add]; infer_instance⟩, ii, ii, ii, ii, ii, ii, ii, ii⟩
                | false =>
                 rw [hd] at gdid
                 repeat' (first|refine Gi0 fun _=>?_|refine Gi1 ?_|refine Gi2 (fun _=>?_) fun _=>?_|refine Gi3 ?_|refine Gi4 fun _=>?_|fail)
                 rw [ht, Bool.not_false]
                 repeat' (first|refine Gi0 fun _=>?_|refine Gi1 ?_|refine Gi2 (fun _=>?_) fun _=>?_|refine Gi3 ?_|refine Gi4 fun _=>?_|fail)
                 exact ⟨m - 1, by omega, rfl, ⟨k + 1, _ :: Z, ⟨y.op, y.work, y.told, y.out, y.steps + 1⟩, vb2, by omega, by omega, hvy, hvb2, ⟨hyr.op, hyr.out, hyr.work, hsR⟩, hs0, hs1, rfl, by rw [Int.natCast_add]; infer_instance⟩, ii, ii, ii, ii, ii, ii, ii, ii⟩
              ·cases hd : r'.done with
               | true =>
                rw [hd] at gdid
                repeat' (first|refine Gi0 fun _=>?_|refine Gi1 ?_|refine Gi2 (fun _=>?_) fun _=>?_|refine Gi3 ?_|refine Gi4 fun _=>?_|fail)
                rw [ht, Bool.not_false]
                repeat' (first|refine Gi0 fun _=>?_|refine Gi1 ?_|refine Gi2 (fun _=>?_) fun _=>?_|refine Gi3 ?_|refine Gi4 fun _=>?_|fail)
                exact ⟨m - 1, by omega, rfl, ⟨k + 1, _ :: Z, ⟨y.op, y.work, true, outOf r', y.steps + 1⟩, vo', by omega, by omega, hvy, hvo', ⟨hyr.op, hor, hyr.work, hsR⟩, hs0, hs1, rfl, by rw [Int.natCast_add]; infer_instance⟩, ii, ii, ii, ii, ii, ii, ii, ii⟩
               | false =>
                rw [hd] at gdid
                repeat' (first|refine Gi0 fun _=>?_|refine Gi1 ?_|refine Gi2 (fun _=>?_) fun _=>?_|refine Gi3 ?_|refine Gi4 fun _=>?_|fail)
                rw [ht, Bool.not_false]
                repeat' (first|refine Gi0 fun _=>?_|refine Gi1 ?_|refine Gi2 (fun _=>?_) fun _=>?_|refine Gi3 ?_|refine Gi4 fun _=>?_|fail)
                exact ⟨m - 1, by omega, rfl, ⟨k + 1, _ :: Z, ⟨y.op, y.work, y.told, y.out, y.steps + 1⟩, vb2, by omega, by omega, hvy, hvb2, ⟨hyr.op, hyr.out, hyr.work, hsR⟩, hs0, hs1, rfl, by rw [Int.natCast_add]; infer_instance⟩, ii, ii, ii, ii, ii, ii, ii, ii⟩
            ·repeat' (first|refine Gi0 fun _=>?_|refine Gi1 ?_|refine Gi2 (fun _=>?_) fun _=>?_|refine Gi3 ?_|refine Gi4 fun _=>?_|fail)
             rw [ht, Bool.not_false]
             repeat' (first|refine Gi0 fun _=>?_|refine Gi1 ?_|refine Gi2 (fun _=>?_) fun _=>?_|refine Gi3 ?_|refine Gi4 fun _=>?_|fail)
             exact ⟨m - 1, by omega, rfl, ⟨k + 1, Z, y, vb2, by omega, by omega, hvy, hvb2, hyr, hst1, hs2, rfl, by rw [Int.natCast_add]; infer_instance⟩, ii, ii, ii, ii, ii, ii, ii, ii⟩
           ·repeat' (first|refine Gi0 fun _=>?_|refine Gi1 ?_|refine Gi2 (fun _=>?_) fun _=>?_|refine Gi3 ?_|refine Gi4 fun _=>?_|fail)
            rw [ht, Bool.not_false]
            repeat' (first|refine Gi0 fun _=>?_|refine Gi1 ?_|refine Gi2 (fun _=>?_) fun _=>?_|refine Gi3 ?_|refine Gi4 fun _=>?_|fail)
            exact ⟨m - 1, by omega, rfl, ⟨k + 1, Z, y, vb2, by omega, by omega, hvy, hvb2, hyr, hst1, hs2, rfl, by rw [Int.natCast_add]; infer_instance⟩, ii, ii, ii, ii, ii, ii, ii, ii⟩
          ·repeat' (first|refine Gi0 fun _=>?_|refine Gi1 ?_|refine Gi2 (fun _=>?_) fun _=>?_|refine Gi3 ?_|refine Gi4 fun _=>?_|fail)
           rw [ht, Bool.not_false]
           repeat' (first|refine Gi0 fun _=>?_|refine Gi1 ?_|refine Gi2 (fun _=>?_) fun _=>?_|refine Gi3 ?_|refine Gi4 fun _=>?_|fail)
           exact ⟨m - 1, by omega, rfl, ⟨k + 1, Z, y, vb2, by omega, by omega, hvy, hvb2, hyr, hst1, hs2, rfl, by rw [Int.natCast_add]; infer_instance⟩, ii, ii, ii, ii, ii, ii, ii, ii⟩
         ·repeat' (first|refine Gi0 fun _=>?_|refine Gi1 ?_|refine Gi2 (fun _=>?_) fun _=>?_|refine Gi3 ?_|refine Gi4 fun _=>?_|fail)
          rw [ht, Bool.not_false]
          repeat' (first|refine Gi0 fun _=>?_|refine Gi1 ?_|refine Gi2 (fun _=>?_) fun _=>?_|refine Gi3 ?_|refine Gi4 fun _=>?_|fail)
          exact exitK_to ⟨rfl, ⟨Z, y, vb2, hvy, hvb2, hyr, rfl⟩, ii, ii, ii, ii, ii, ii, ii⟩
       ·have hki : ¬ (k : Int) < ts.length := by omega
        repeat' (first|refine Gi0 fun _=>?_|refine Gi1 ?_|refine Gi2 (fun _=>?_) fun _=>?_|refine Gi3 ?_|refine Gi4 fun _=>?_|fail)
        exact exitK_to ⟨rfl, ⟨Z, y, vb2, hvy, hvb2, hyr, rfl⟩, ii, ii, ii, ii, ii, ii, ii⟩
      ·rintro ρ ds L' ⟨rfl, ⟨Z, y, vb2, hvy, hvb2, hyr, rfl⟩, e0, e1, e5, e7, e8, e9, e11⟩
       have q2 := hvb2.sng
       repeat' (first|refine Gi0 fun _=>?_|refine Gi1 ?_|refine Gi2 (fun _=>?_) fun _=>?_|refine Gi3 ?_|refine Gi4 fun _=>?_|fail)
       refine OW.append hrow ii (Rd.blk (n := 1) (l := rcC y vb vb2) rfl (Nat.le_refl _)) (fun v hq => by
        simp only [rcC, List.mem_cons, List.not_mem_nil, or_false] at hq
        rcases hq with rfl | rfl | rfl | rfl | rfl | rfl | rfl | rfl | rfl | rfl | rfl | rfl | rfl <;> first | infer_instance | assumption) (by omega) (fun v2 N2 hrow2 => ?_)
       have sv2 := hrow2.sng
       repeat' (first|refine Gi0 fun _=>?_|refine Gi1 ?_|refine Gi2 (fun _=>?_) fun _=>?_|refine Gi3 ?_|refine Gi4 fun _=>?_|fail)
       exact ⟨hlt, rfl, ⟨_ :: (Z ++ ((b11, .cells (rcC y vb vb2).toArray 248 (0, 0)) :: X)), N2, v2, os ++ [y], _, by rw [List.length_append]; exact hrow2, hlat.append (LAt.one rfl ⟨_, _, rfl, hvy, hvb2, hyr⟩), by rw [List.length_append]; simp; omega, by simp [List.append_assoc] <;> rfl, ii⟩, ii, ii, ii, ii, by rw [Int.natCast_add]; infer_instance⟩
     ·repeat' (first|refine Gi0 fun _=>?_|refine Gi1 ?_|refine Gi2 (fun _=>?_) fun _=>?_|refine Gi3 ?_|refine Gi4 fun _=>?_|fail)
      rw [decide_eq_false c3, Bool.not_false]
      repeat' (first|refine Gi0 fun _=>?_|refine Gi1 ?_|refine Gi2 (fun _=>?_) fun _=>?_|refine Gi3 ?_|refine Gi4 fun _=>?_|fail)
      exact ⟨hlt, rfl, ⟨X, N, v, os, xs, hrow, hlat, by omega, rfl, ii⟩, ii, ii, ii, ii, by rw [Int.natCast_add]; infer_instance⟩
    ·rw [decide_eq_false hth]
     repeat' (first|refine Gi0 fun _=>?_|refine Gi1 ?_|refine Gi2 (fun _=>?_) fun _=>?_|refine Gi3 ?_|refine Gi4 fun _=>?_|fail)
     exact ⟨hlt, rfl, ⟨X, N, v, os, xs, hrow, hlat, by omega, rfl, ii⟩, ii, ii, ii, ii, by rw [Int.natCast_add]; infer_instance⟩
   ·repeat' (first|refine Gi0 fun _=>?_|refine Gi1 ?_|refine Gi2 (fun _=>?_) fun _=>?_|refine Gi3 ?_|refine Gi4 fun _=>?_|fail)
    exact ⟨hlt, rfl, ⟨X, N, v, os, xs, hrow, hlat, by omega, rfl, ii⟩, ii, ii, ii, ii, by rw [Int.natCast_add]; infer_instance⟩
  ·repeat' (first|refine Gi0 fun _=>?_|refine Gi1 ?_|refine Gi2 (fun _=>?_) fun _=>?_|refine Gi3 ?_|refine Gi4 fun _=>?_|fail)
   exact ⟨hlt, rfl, ⟨X, N, v, os, xs, hrow, hlat, by omega, rfl, ii⟩, ii, ii, ii, ii, by rw [Int.natCast_add]; infer_instance⟩
 ·obtain rfl : i = ts.length := by omega
  repeat' (first|refine Gi0 fun _=>?_|refine Gi1 ?_|refine Gi2 (fun _=>?_) fun _=>?_|refine Gi3 ?_|refine Gi4 fun _=>?_|fail)
  refine bodyK.ret (Res.one Tryz.results130) ⟨X ++ (N ++ (NB ++ [(b5, b5C x)])), os, by simp, ?_, by omega⟩
  exact LS.of_row (D := L) hrow hlat (by omega) (fun q hq => by simp [hq]) (fun c a h => RcAt.to (hm := ⟨fun q hq => by simp [hq]⟩) c a h)
end Go.Proofs.YtmnhooepaemlcaaGreat
