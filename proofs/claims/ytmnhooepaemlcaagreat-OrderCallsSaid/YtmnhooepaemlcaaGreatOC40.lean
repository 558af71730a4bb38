/- OrderCalls: true for every input; arguments as before. Part 40. Conditions: none. -/
import Derived.Test.YtmnhooepaemlcaaGreatOC2
import Derived.Test.YtmnhooepaemlcaaGreatOC37
set_option linter.all false
namespace Go.Proofs.YtmnhooepaemlcaaGreat
open Go Go.Pw Go.Pw.Sc Go.Pw.Md Go.Pw.Jd Go.Pw.Or
set_option maxRecDepth 100000
set_option maxHeartbeats 4000000
set_option synthInstance.maxHeartbeats 400000
set_option synthInstance.maxSize 2000
attribute [local irreducible] CW OW RW thenK blockK
attribute [local irreducible] scopeK loopK TRW ATW
theorem rows_drop {W : List (Turn × Rp)} {i : Nat} (hi : i < W.length) : (rows W).drop i = ⟨W[i].1, W[i].2, i, bnd (W.take i)⟩ :: (rows W).drop (i + 1) := by
 have h1 : i < (rows W).length := by rw [rows_length]; exact hi
 rw [List.drop_eq_getElem_cons h1]
 congr 1
 have h2 := rows_get W hi
 rw [List.getElem?_eq_getElem h1] at h2
 exact Option.some.inj h2
theorem begins_iff {t : Turn} {r : Rp} {i : Nat} {B : Bnd} {x : Hd} : begins x ⟨t, r, i, B⟩ = decide ((t.kind = 5 ∧ r.errno = 0) ∧ (0 ≤ t.thread ∧ t.thread < 4) ∧ gB B t.thread = x) := rfl
theorem rOf30 (vl vr : Value) (ts : List Turn) (rs : List Rp) (x : Hd) (L : Chunk) (hl : LS 13 TnAt L vl ts) (hr : LS 11 RpAt L vr rs) (hx : inR .i64 x.1 ∧ inR .i64 x.2) (hb : ts.length ≤ 4096) :
  Fn1 Tryz.prog 34 [vl, vr, hdV x] L (fun u L' => (askE ts rs x ≠ 0 ∧ u = .tuple #[.slice none 0 0, .int .i64 (askE ts rs x)] ∧ L' = L) ∨
   (askE ts rs x = 0 ∧ ∃ w N, u = .tuple #[w, .int .i64 0] ∧ L' = N ++ L ∧ LS 13 TdAt (N ++ L) w (ofR x (rows (ts.zip rs))))) := by
 have sl := hl.sng
 have sr := hr.sng
 intro w0; refine Spec.enter3 Tryz.func34 rfl Tryz.ntmps34 (by decide) ?_
 have z10:DrP 10 [0,1,2,3,4,5,6,7,8,9,10,11,12,13,14,15,16,17,18,19,20,21,22,23,24,25,26,27,28]:=⟨⟨⟩⟩; have z12:DrP 12 [0,1,2,3,4,5,6,7,8,9,10,11,12,13]:=⟨⟨⟩⟩; have z15:DrP 15 [0,1,2,3,4,5,6,7,8,9,10,11,12,13,14,15,16,17,18]:=⟨⟨⟩⟩
 repeat' (first|refine Gi0 fun _=>?_|refine Gi1 ?_|refine Gi2 (fun _=>?_) fun _=>?_|refine Gi3 ?_|refine Gi4 fun _=>?_|fail)
 rename_i b5
 refine OW.call (rJudge26 vl vr ts rs x _ (LS.to hl (fun c a h => TnAt.to c a h)) (LS.to hr (fun c a h => RpAt.to c a h)) hx hb) ?_
 rintro _ _ ⟨⟨a1, a2, rfl⟩, rfl⟩
 by_cases hask : askE ts rs x = 0
 ·rw [hask]
  obtain ⟨hlen, _, _⟩ := ask_zero hask
  obtain ⟨al, cl, hal⟩ := hl.slice
  obtain ⟨ar, cr, har⟩ := hr.slice
  subst hal har
  have hll : (ts.length : Int) ≤ 4096 := by omega
  repeat' (first|refine Gi0 fun _=>?_|refine Gi1 ?_|refine Gi2 (fun _=>?_) fun _=>?_|refine Gi3 ?_|refine Gi4 fun _=>?_|fail)
  rename_i b8
  refine OW.call (rBound _ _ ts rs _ (LS.to hl (fun c a h => TnAt.to c a h)) (LS.to hr (fun c a h => RpAt.to c a h)) hlen hb) ?_
  rintro vB _ ⟨NB, rfl, hB0⟩
  obtain ⟨gs, hgs, hgg, hB⟩ : ∃ gs : List (Int → Hd), gs.length = ts.length ∧ (∀ i (hi : i < gs.length), gs[i] = gB (bnd ((ts.zip rs).take i))) ∧ LS 8 HvAt _ vB gs := ⟨bounds (ts.zip rs) ts.length, bounds_length _ _, fun i hi => bounds_get _ (by rwa [bounds_length] at hi), hB0⟩
  clear hB0
  generalize hW : ts.zip rs = W at *
  have hWl : W.length = ts.length := by rw [← hW, List.length_zip, ← hlen, Nat.min_self]
  have sB := hB.sng
  obtain ⟨aB, cB, hvB⟩ := hB.slice
  subst hvB
  repeat' (first|refine Gi0 fun _=>?_|refine Gi1 ?_|refine Gi2 (fun _=>?_) fun _=>?_|refine Gi3 ?_|refine Gi4 fun _=>?_|fail)
  refine CW.count ts.length (fun i ρ ds L' => ds = [] ∧ (∃ X N v os xs, Row 103 13 N v os.length xs ∧ LAt 13 (TdAt L) xs os ∧ os.length ≤ i ∧ os ++ ofR x ((rows W).drop i) = ofR x (rows W) ∧ L' = X ++ (N ++ (NB ++ ((b8, .cells #[.int .i64 a1, .int .i64 a2] 27 (0, 0)) :: (b5, b5C x) :: L))) ∧ Ev ρ 11 v) ∧
    Ev ρ 0 (.slice al ts.length cl) ∧ Ev ρ 1 (.slice ar rs.length cr) ∧ Ev ρ 5 (ptr b5) ∧ Ev ρ 10 (.slice aB gs.length cB) ∧ Ev ρ 12 (.int .i64 (i : Int))) ⟨rfl, ⟨[], [], _, [], [], Row.nil _ _, rfl, Nat.le_refl _, rfl, rfl, ii⟩, ii, ii, ii, ii, ii⟩ ?_
  rintro i ρ ds L' hi ⟨rfl, ⟨X, N, v, os, xs, hrow, hlat, hol, hof, rfl, e11⟩, e0, e1, e5, e10, e12⟩
  have sv := hrow.sng
  by_cases hlt : i < ts.length
  ·obtain ⟨bk, kk, capk, lk, ek, frk, hbe, hbin, hbc, hbn⟩ := hl.open (by omega)
   cases hbe
   obtain ⟨bj, kj, capj, lj, ej, frj, hbe, hbinj, hbcj, hbnj⟩ := hr.open (by omega)
   cases hbe
   obtain ⟨bg, kg, capg, lg, eg, frg, hbe, hbing, hbcg, hbng⟩ := hB.open (by omega)
   cases hbe
   obtain ⟨cc, hcut, vb, vd, rfl, hvb, hvd, htr⟩ := hbn i hlt
   obtain ⟨cc, hcutj, vo, rfl, hvo, hrr⟩ := hbnj i (by omega)
   obtain ⟨cc, hcutg, hg⟩ := hbng i (by omega)
   have hg : cc = hv gs[i] := hg
   subst hg
   have hggi := hgg i (by omega)
   have hWi : i < W.length := by omega
   have hW1 : W[i] = (ts[i], rs[i]) := by subst hW; simp
   have hdr := rows_drop hWi
   rw [hW1] at hdr
   simp only at hdr
   rw [hdr, ofR, begins_iff, ← hggi] at hof
   clear hdr hggi hW1
   have g0 : NthL lj (kj + i * 11) (.int .i64 rs[i].errno) := nth_cut 0 hcutj rfl
   have g2 : NthL lk (kk + i * 13) (.int .i64 ts[i].kind) := nth_cut 0 hcut rfl
   have g3 : NthL lk (kk + i * 13 + 3) (.int .i64 ts[i].thread) := nth_cut 3 hcut rfl
   have gop : CutL lk (kk + i * 13 + 6) 6 [.int .i64 ts[i].okind, .int .u32 ts[i].oat, .int .u64 ts[i].osize, .int .u64 ts[i].omult, .int .u64 ts[i].omany, vb] := cutSub hcut 6 6 (by decide)
   generalize ts[i] = t at *
   generalize rs[i] = r at *
   generalize gs[i] = g at *
   have hlti : (i : Int) < ts.length := by omega
   have hltj : (i : Int) < rs.length := by omega
   have hltg : (i : Int) < gs.length := by omega
   have q1 := hvb.sng
   by_cases c1 : t.kind = 5
   ·by_cases c2 : r.errno = 0
    ·repeat' (first|refine Gi0 fun _=>?_|refine Gi1 ?_|refine Gi2 (fun _=>?_) fun _=>?_|refine Gi3 ?_|refine Gi4 fun _=>?_|fail)
     refine RW.call (dkThread t.thread _) ?_
     rintro _ _ ⟨rfl, rfl⟩
     refine pinAll ?_
     by_cases hth : 0 ≤ t.thread ∧ t.thread < 4
     ·rw [decide_eq_true hth]
      have gg : CutL lg (kg + i * 8 + t.thread.toNat * 2) 2 _ := cut_cut hcutg (hv_cut g hth)
      obtain ⟨hth1, hth2⟩ := id hth
      by_cases c3 : (g t.thread).1 = x.1 ∧ (g t.thread).2 = x.2
      ·repeat' (first|refine Gi0 fun _=>?_|refine Gi1 ?_|refine Gi2 (fun _=>?_) fun _=>?_|refine Gi3 ?_|refine Gi4 fun _=>?_|fail)
       rw [decide_eq_true c3, Bool.not_true]
       repeat' (first|refine Gi0 fun _=>?_|refine Gi1 ?_|refine Gi2 (fun _=>?_) fun _=>?_|refine Gi3 ?_|refine Gi4 fun _=>?_|fail)
       rw [decide_eq_true (show (t.kind = 5 ∧ r.errno = 0) ∧ (0 ≤ t.thread ∧ t.thread < 4) ∧ g t.thread = x from ⟨⟨c1, c2⟩, hth, Prod.ext c3.1 c3.2⟩), if_pos rfl] at hof
       generalize hres : scanT t.thread x ((rows W).drop (i + 1)) = res at *
       refine CW.loopE 2 (fun ρ ds L' => ds = [] ∧ (∃ X N v os xs, Row 103 13 N v os.length xs ∧ LAt 13 (TdAt L) xs os ∧ os.length ≤ i + 1 ∧ os ++ ofR x ((rows W).drop (i + 1)) = ofR x (rows W) ∧ L' = X ++ (N ++ (NB ++ ((b8, .cells #[.int .i64 a1, .int .i64 a2] 27 (0, 0)) :: (b5, b5C x) :: L))) ∧ Ev ρ 11 v) ∧ Ev ρ 0 (.slice (some ⟨bk, kk, none⟩) ts.length cl) ∧ Ev ρ 1 (.slice (some ⟨bj, kj, none⟩) rs.length cr) ∧ Ev ρ 5 (ptr b5) ∧ Ev ρ 10 (.slice (some ⟨bg, kg, none⟩) gs.length cB) ∧ Ev ρ 12 (.int .i64 (i : Int)))
        (fun m ρ ds L' => ds = [] ∧ (∃ k : Nat, m + k = ts.length ∧ i < k ∧ scanT t.thread x ((rows W).drop k) = res ∧ L' = X ++ (N ++ (NB ++ ((b8, .cells #[.int .i64 a1, .int .i64 a2] 27 (0, 0)) :: (b5, b5C x) :: L))) ∧ Ev ρ 14 (.int .i64 (k : Int))) ∧ Ev ρ 11 v ∧ Ev ρ 13 (.int .i64 t.thread) ∧ Ev ρ 0 (.slice (some ⟨bk, kk, none⟩) ts.length cl) ∧ Ev ρ 1 (.slice (some ⟨bj, kj, none⟩) rs.length cr) ∧ Ev ρ 5 (ptr b5) ∧ Ev ρ 10 (.slice (some ⟨bg, kg, none⟩) gs.length cB) ∧ Ev ρ 12 (.int .i64 (i : Int)))
        (ts.length - (i + 1)) ⟨rfl, ⟨i + 1, by omega, by omega, hres, rfl, by rw [Int.natCast_add]; infer_instance⟩, ii, ii, ii, ii, ii, ii, ii⟩ ?_ ?_
       ·rintro m ρ ds L' ⟨rfl, ⟨k, hmk, hik, hsc, rfl, e14⟩, e11, e13, e0, e1, e5, e10, e12⟩
        by_cases hk : k < ts.length
        ·have hki : (k : Int) < ts.length := by omega
         have hkj : (k : Int) < rs.length := by omega
         have hkg : (k : Int) < gs.length := by omega
         obtain ⟨cc, hcut2, vb', vd', rfl, hvb', hvd', htr'⟩ := hbn k hk
         obtain ⟨cc, hcutj2, vo', rfl, hvo', hrr'⟩ := hbnj k (by omega)
         obtain ⟨cc, hcutg2, hg2⟩ := hbng k (by omega)
         have hg2 : cc = hv gs[k] := hg2
         subst hg2
         have hggk := hgg k (by omega)
         have hWk : k < W.length := by omega
         have hW1 : W[k] = (ts[k], rs[k]) := by subst hW; simp
         have hdr := rows_drop hWk
         rw [hW1] at hdr
         simp only at hdr
         have g0' : NthL lj (kj + k * 11) (.int .i64 rs[k].errno) := nth_cut 0 hcutj2 rfl
         have g2' : NthL lk (kk + k * 13) (.int .i64 ts[k].kind) := nth_cut 0 hcut2 rfl
         have g3' : NthL lk (kk + k * 13 + 3) (.int .i64 ts[k].thread) := nth_cut 3 hcut2 rfl
         have hcd : CutL lj (kj + k * 11 + 4) 7 [.int .i64 rs[k].dkind, .int .i64 rs[k].dat, .bool rs[k].done, .int .i64 rs[k].oerrno, .int .u32 rs[k].oad, .int .i64 rs[k].on, vo'] := cutSub hcutj2 4 7 (by decide)
         have hco : CutL lj (kj + k * 11 + 4 + 3) 4 [.int .i64 rs[k].oerrno, .int .u32 rs[k].oad, .int .i64 rs[k].on, vo'] := cutSub hcd 3 4 (by decide)
         have g6 : NthL lj (kj + k * 11 + 4 + 2) (.bool rs[k].done) := nth_cut 2 hcd rfl
         rw [hdr] at hsc
         have hsc2 : (if ¬ gB (bnd (W.take k)) t.thread = x then none else if ts[k].thread = t.thread ∧ (ts[k].kind = 6 ∧ rs[k].errno = 0) ∧ rs[k].done = true then some (k, outOf rs[k]) else scanT t.thread x ((rows W).drop (k + 1))) = res := hsc
         rw [← hggk] at hsc2
         clear hbn hbnj hbng hgg hggk hW1 hdr hsc
         generalize ts[k] = t' at *
         generalize rs[k] = r' at *
         generalize gs[k] = g' at *
         have q3 := hvo'.sng
         have gg' : CutL lg (kg + k * 8 + t.thread.toNat * 2) 2 _ := cut_cut hcutg2 (hv_cut g' hth)
         by_cases c4 : (g' t.thread).1 = x.1 ∧ (g' t.thread).2 = x.2
         ·rw [if_neg (show ¬ ¬ g' t.thread = x from fun h => h (Prod.ext c4.1 c4.2))] at hsc2
          have hno : ¬ (t'.thread = t.thread ∧ (t'.kind = 6 ∧ r'.errno = 0) ∧ r'.done = true) → scanT t.thread x ((rows W).drop (k + 1)) = res := fun h => by rw [if_neg h] at hsc2; exact hsc2
          by_cases d1 : t'.thread = t.thread
          ·by_cases d2 : r'.errno = 0
           ·by_cases d3 : t'.kind = 6
            ·cases hd : r'.done with
             | true =>
              rw [hd] at hcd g6
              rw [if_pos ⟨d1, ⟨d3, d2⟩, hd⟩] at hsc2
              subst hsc2
              repeat' (first|refine Gi0 fun _=>?_|refine Hi1 ?_|refine CW.drawsP (id := 10) [0,1,2,3,4,5,6,7,8,9,10,11,12,13,14,15,16,17,18,19,20,21,22,23,24,25,26,27,28] mixed (by kernel_rfl) ?_|refine CW.drawsP (id := 12) [0,1,2,3,4,5,6,7,8,9,10,11,12,13] mixed (by kernel_rfl) ?_|refine Gi2 (fun _=>?_) fun _=>?_|refine Gi3 ?_|refine Gi4 fun _=>?_|fail)
              refine CW.drawsR L [0, 1, 2, 3, 4, 5, 6, 7, 8, 9, 10, 11, 12, 13, 14, 15, 16, 17, 18] mixed (by kernel_rfl) ?_
              repeat' (first|refine Gi0 fun _=>?_|refine Gi1 ?_|refine Gi2 (fun _=>?_) fun _=>?_|refine Gi3 ?_|refine Gi4 fun _=>?_|fail)
              rename_i b133
              have htd : TdR ⟨t.thread, opOf t, outOf r', (i : Int), (k : Int)⟩ := ⟨htr.thread, ⟨htr.okind, htr.oat, htr.osize, htr.omult, htr.omany⟩, ⟨hrr'.oerrno, hrr'.oad, hrr'.on⟩, (show inR .i64 ((i : Nat) : Int) by constructor <;> omega), (show inR .i64 ((k : Nat) : Int) by constructor <;> omega)⟩
              refine RW.append hrow ii (Rd.blk (n := 1) (l := tdC ⟨t.thread, opOf t, outOf r', (i : Int), (k : Int)⟩ vb vo') rfl (Nat.le_refl _)) (fun v hq => by
               simp only [tdC, List.mem_cons, List.not_mem_nil, or_false] at hq
               rcases hq with rfl | rfl | rfl | rfl | rfl | rfl | rfl | rfl | rfl | rfl | rfl | rfl | rfl <;> first | infer_instance | assumption) (by omega) (fun v2 N2 hrow2 => ⟨_, fun _ h => h, fun q hq => by simp only [List.mem_append, List.mem_cons] at hq ⊢; grind, ?_⟩)
              have sv2 := hrow2.sng
              have hex : (os ++ [⟨t.thread, opOf t, outOf r', (i : Int), (k : Int)⟩]) ++ ofR x ((rows W).drop (i + 1)) = ofR x (rows W) := by rw [List.append_assoc]; exact hof
              repeat' (first|refine Gi0 fun _=>?_|refine Gi1 ?_|refine Gi2 (fun _=>?_) fun _=>?_|refine Gi3 ?_|refine Gi4 fun _=>?_|fail)
              exact exitK_to ⟨rfl, ⟨(b133, _) :: X, N2, v2, _, _, by rw [List.length_append]; exact hrow2, hlat.append (LAt.one rfl ⟨_, _, rfl, hvb, hvo', htd⟩), by rw [List.length_append]; simp; omega, hex, rfl, ii⟩, ii, ii, ii, ii, ii⟩
             | false =>
              have hnx := hno (fun h => by have := h.2.2; rw [hd] at this; cases this)
              rw [hd] at hcd g6
              repeat' (first|refine Gi0 fun _=>?_|refine Gi1 ?_|refine Gi2 (fun _=>?_) fun _=>?_|refine Gi3 ?_|refine Gi4 fun _=>?_|fail)
              exact ⟨m - 1, by omega, rfl, ⟨k + 1, by omega, by omega, hnx, rfl, by rw [Int.natCast_add]; infer_instance⟩, ii, ii, ii, ii, ii, ii, ii⟩
            ·have hnx := hno (fun h => d3 h.2.1.1)
             repeat' (first|refine Gi0 fun _=>?_|refine Gi1 ?_|refine Gi2 (fun _=>?_) fun _=>?_|refine Gi3 ?_|refine Gi4 fun _=>?_|fail)
             exact ⟨m - 1, by omega, rfl, ⟨k + 1, by omega, by omega, hnx, rfl, by rw [Int.natCast_add]; infer_instance⟩, ii, ii, ii, ii, ii, ii, ii⟩
           ·have hnx := hno (fun h => d2 h.2.1.2)
            repeat' (first|refine Gi0 fun _=>?_|refine Gi1 ?_|refine Gi2 (fun _=>?_) fun _=>?_|refine Gi3 ?_|refine Gi4 fun _=>?_|fail)
            exact ⟨m - 1, by omega, rfl, ⟨k + 1, by omega, by omega, hnx, rfl, by rw [Int.natCast_add]; infer_instance⟩, ii, ii, ii, ii, ii, ii, ii⟩
          ·have hnx := hno (fun h => d1 h.1)
           repeat' (first|refine Gi0 fun _=>?_|refine Gi1 ?_|refine Gi2 (fun _=>?_) fun _=>?_|refine Gi3 ?_|refine Gi4 fun _=>?_|fail)
           exact ⟨m - 1, by omega, rfl, ⟨k + 1, by omega, by omega, hnx, rfl, by rw [Int.natCast_add]; infer_instance⟩, ii, ii, ii, ii, ii, ii, ii⟩
         ·rw [if_pos (show ¬ g' t.thread = x from fun h => c4 ⟨congrArg Prod.fst h, congrArg Prod.snd h⟩)] at hsc2
          subst hsc2
          have hex : os ++ ofR x ((rows W).drop (i + 1)) = ofR x (rows W) := hof
          repeat' (first|refine Gi0 fun _=>?_|refine Gi1 ?_|refine Gi2 (fun _=>?_) fun _=>?_|refine Gi3 ?_|refine Gi4 fun _=>?_|fail)
          exact exitK_to ⟨rfl, ⟨X, N, v, os, xs, hrow, hlat, by omega, hex, rfl, ii⟩, ii, ii, ii, ii, ii⟩
        ·have hki : ¬ (k : Int) < ts.length := by omega
         rw [List.drop_of_length_le (by rw [rows_length]; omega)] at hsc
         have hsc : none = res := hsc
         subst hsc
         have hex : os ++ ofR x ((rows W).drop (i + 1)) = ofR x (rows W) := hof
         repeat' (first|refine Gi0 fun _=>?_|refine Gi1 ?_|refine Gi2 (fun _=>?_) fun _=>?_|refine Gi3 ?_|refine Gi4 fun _=>?_|fail)
         exact exitK_to ⟨rfl, ⟨X, N, v, os, xs, hrow, hlat, by omega, hex, rfl, ii⟩, ii, ii, ii, ii, ii⟩
       ·clear hof hol hlat hrow sv e11
        rintro ρ ds L' ⟨rfl, ⟨X, N, v, os, xs, hrow, hlat, hol, hof, rfl, e11⟩, e0, e1, e5, e10, e12⟩
        have sv := hrow.sng
        repeat' (first|refine Gi0 fun _=>?_|refine Gi1 ?_|refine Gi2 (fun _=>?_) fun _=>?_|refine Gi3 ?_|refine Gi4 fun _=>?_|fail)
        exact ⟨hlt, rfl, ⟨X, N, v, os, xs, hrow, hlat, hol, hof, rfl, ii⟩, ii, ii, ii, ii, by rw [Int.natCast_add]; infer_instance⟩
      ·rw [decide_eq_false (show ¬ ((t.kind = 5 ∧ r.errno = 0) ∧ (0 ≤ t.thread ∧ t.thread < 4) ∧ g t.thread = x) from fun h => c3 ⟨congrArg Prod.fst h.2.2, congrArg Prod.snd h.2.2⟩), if_neg (by simp)] at hof
       repeat' (first|refine Gi0 fun _=>?_|refine Gi1 ?_|refine Gi2 (fun _=>?_) fun _=>?_|refine Gi3 ?_|refine Gi4 fun _=>?_|fail)
       rw [decide_eq_false c3, Bool.not_false]
       repeat' (first|refine Gi0 fun _=>?_|refine Gi1 ?_|refine Gi2 (fun _=>?_) fun _=>?_|refine Gi3 ?_|refine Gi4 fun _=>?_|fail)
       exact ⟨hlt, rfl, ⟨X, N, v, os, xs, hrow, hlat, by omega, hof, rfl, ii⟩, ii, ii, ii, ii, by rw [Int.natCast_add]; infer_instance⟩
     ·rw [decide_eq_false hth]
      rw [decide_eq_false (show ¬ ((t.kind = 5 ∧ r.errno = 0) ∧ (0 ≤ t.thread ∧ t.thread < 4) ∧ g t.thread = x) from fun h => hth h.2.1), if_neg (by simp)] at hof
      repeat' (first|refine Gi0 fun _=>?_|refine Gi1 ?_|refine Gi2 (fun _=>?_) fun _=>?_|refine Gi3 ?_|refine Gi4 fun _=>?_|fail)
      exact ⟨hlt, rfl, ⟨X, N, v, os, xs, hrow, hlat, by omega, hof, rfl, ii⟩, ii, ii, ii, ii, by rw [Int.natCast_add]; infer_instance⟩
    ·rw [decide_eq_false (show ¬ ((t.kind = 5 ∧ r.errno = 0) ∧ (0 ≤ t.thread ∧ t.thread < 4) ∧ g t.thread = x) from fun h => c2 h.1.2), if_neg (by simp)] at hof
     repeat' (first|refine Gi0 fun _=>?_|refine Gi1 ?_|refine Gi2 (fun _=>?_) fun _=>?_|refine Gi3 ?_|refine Gi4 fun _=>?_|fail)
     exact ⟨hlt, rfl, ⟨X, N, v, os, xs, hrow, hlat, by omega, hof, rfl, ii⟩, ii, ii, ii, ii, by rw [Int.natCast_add]; infer_instance⟩
   ·rw [decide_eq_false (show ¬ ((t.kind = 5 ∧ r.errno = 0) ∧ (0 ≤ t.thread ∧ t.thread < 4) ∧ g t.thread = x) from fun h => c1 h.1.1), if_neg (by simp)] at hof
    repeat' (first|refine Gi0 fun _=>?_|refine Gi1 ?_|refine Gi2 (fun _=>?_) fun _=>?_|refine Gi3 ?_|refine Gi4 fun _=>?_|fail)
    exact ⟨hlt, rfl, ⟨X, N, v, os, xs, hrow, hlat, by omega, hof, rfl, ii⟩, ii, ii, ii, ii, by rw [Int.natCast_add]; infer_instance⟩
  ·obtain rfl : i = ts.length := by omega
   rw [List.drop_of_length_le (by rw [rows_length]; omega), show ofR x [] = [] from rfl, List.append_nil] at hof
   subst hof
   repeat' (first|refine Gi0 fun _=>?_|refine Gi1 ?_|refine Gi2 (fun _=>?_) fun _=>?_|refine Gi3 ?_|refine Gi4 fun _=>?_|fail)
   refine bodyK.ret (Res.two Tryz.results34) (.inr ⟨rfl, v, X ++ (N ++ (NB ++ [(b8, .cells #[.int .i64 a1, .int .i64 a2] 27 (0, 0)), (b5, b5C x)])), rfl, by simp, ?_⟩)
   exact LS.of_row (D := L) hrow hlat (by omega) (fun q hq => by simp [hq]) (fun c a h => TdAt.to (hm := ⟨fun q hq => by simp [hq]⟩) c a h)
 ·rcases ask_cases ts rs x with h | h | h | h
  ·exact absurd h hask
  all_goals
   rw [h]
   repeat' (first|refine Gi0 fun _=>?_|refine Gi1 ?_|refine Gi2 (fun _=>?_) fun _=>?_|refine Gi3 ?_|refine Gi4 fun _=>?_|fail)
   exact bodyK.retD L (Res.two Tryz.results34) (.inl ⟨by decide, rfl, rfl⟩)
end Go.Proofs.YtmnhooepaemlcaaGreat
