/-
  For every input the law OrderTouch returns true, and each argument reads behind the call as it read before. This text holds lemmas for it (part 16).
  Conditions: none.
-/
import Derived.Test.YtmnhooepaemlcaaGreatOT2
import Derived.Test.YtmnhooepaemlcaaGreatOT15
set_option linter.all false
namespace Go.Proofs.YtmnhooepaemlcaaGreat
open Go Go.Pw Go.Pw.Sc Go.Pw.Md Go.Pw.Or
set_option maxRecDepth 100000
set_option maxHeartbeats 4000000
set_option synthInstance.maxHeartbeats 400000
set_option synthInstance.maxSize 2000
attribute [local irreducible] CW OW RW thenK blockK
attribute [local irreducible] scopeK loopK TRW ATW
theorem split2 {r : List Nat} {i : Nat} (h : i + 1 < r.length) : r = r.take i ++ r[i] :: r[i + 1] :: r.drop (i + 2) := by
 rw [← List.drop_eq_getElem_cons h, ← List.drop_eq_getElem_cons (by omega), List.take_append_drop]
theorem swap2 {r : List Nat} {i : Nat} (h : i + 1 < r.length) : (r.set i r[i + 1]).set (i + 1) r[i] = r.take i ++ r[i + 1] :: r[i] :: r.drop (i + 2) := by
 apply List.ext_getElem
 ·simp; omega
 ·intro k h1 h2
  simp only [List.getElem_set]
  rw [List.getElem_append]
  by_cases hk : k < i
  ·rw [if_neg (by omega), if_neg (by omega), dif_pos (by simp; omega), List.getElem_take]
  ·rw [dif_neg (by simp; omega)]
   simp only [List.length_take, Nat.min_eq_left (show i ≤ r.length by omega)]
   by_cases hk0 : k = i
   ·subst hk0; simp
   ·by_cases hk1 : k = i + 1
    ·subst hk1; simp
    ·rw [if_neg (by omega), if_neg (by omega)]
     obtain ⟨d, rfl⟩ : ∃ d, k = i + 2 + d := ⟨k - (i + 2), by omega⟩
     simp only [show i + 2 + d - i = d + 1 + 1 by omega, List.getElem_cons_succ, List.getElem_drop]
theorem orderTouch (a0 a1 : Int) (lv : Value) (l : List Td) (L : Chunk) (hl : LS 13 TdAt L lv l) :
  Fn1 Tryz.prog 8 [.int .i64 a0, .int .i64 a1, lv] L (fun u L' => u = .bool true ∧ L = L') := by
 have sl := hl.sng
 intro w0; refine Spec.enter3 Tryz.func8 rfl Tryz.ntmps8 (by decide) ?_
 repeat' (first|refine Gi0 fun _=>?_|refine Gi1 ?_|refine CW.drawsTreeA (id := 9) (.fork [0, 1, 2, 3, 4, 5, 6, 7, 8, 9, 10, 11, 12, 13, 14] 15 16 (.leaf [16, 17, 18]) (.leaf [15, 17, 18])) mixed (by kernel_rfl) ?_|refine CW.drawsS (id := 12) 13 [0,1,2,3,4,5,6,7,8,9,10,11,12,13,14,15,16,17] mixed (by kernel_rfl) ?_|refine TRW.fork ?_|refine TRW.leaf ?_|refine TRW.both ?_ ?_|refine Gi2 (fun _=>?_) fun _=>?_|refine Gi3 ?_|refine Gi4 fun _=>?_|fail)
 refine OW.call (few30 lv l 7 _ (LS.to hl (fun c a h => TdAt.to c a h))) ?_
 rintro _ _ ⟨⟨rfl, h7⟩ | rfl, rfl⟩
 ·repeat' (first|refine Gi0 fun _=>?_|refine Gi1 ?_|refine CW.drawsTreeA (id := 9) (.fork [0, 1, 2, 3, 4, 5, 6, 7, 8, 9, 10, 11, 12, 13, 14] 15 16 (.leaf [16, 17, 18]) (.leaf [15, 17, 18])) mixed (by kernel_rfl) ?_|refine CW.drawsS (id := 12) 13 [0,1,2,3,4,5,6,7,8,9,10,11,12,13,14,15,16,17] mixed (by kernel_rfl) ?_|refine TRW.fork ?_|refine TRW.leaf ?_|refine TRW.both ?_ ?_|refine Gi2 (fun _=>?_) fun _=>?_|refine Gi3 ?_|refine Gi4 fun _=>?_|fail)
  refine OW.call (oFindAll a0 a1 lv l _ (LS.to hl (fun c a h => TdAt.to c a h))) ?_
  rintro _ L1 (⟨hf, rfl, hL1⟩ | ⟨hf, hok, N, rfl, hm⟩)
  ·obtain rfl := hL1.symm
   repeat' (first|refine Gi0 fun _=>?_|refine Gi1 ?_|refine CW.drawsTreeA (id := 9) (.fork [0, 1, 2, 3, 4, 5, 6, 7, 8, 9, 10, 11, 12, 13, 14] 15 16 (.leaf [16, 17, 18]) (.leaf [15, 17, 18])) mixed (by kernel_rfl) ?_|refine CW.drawsS (id := 12) 13 [0,1,2,3,4,5,6,7,8,9,10,11,12,13,14,15,16,17] mixed (by kernel_rfl) ?_|refine TRW.fork ?_|refine TRW.leaf ?_|refine TRW.both ?_ ?_|refine Gi2 (fun _=>?_) fun _=>?_|refine Gi3 ?_|refine Gi4 fun _=>?_|fail)
   refine OW.call (num30 _ _) ?_
   rintro _ _ ⟨rfl, rfl⟩
   repeat' (first|refine Gi0 fun _=>?_|refine Gi1 ?_|refine CW.drawsTreeA (id := 9) (.fork [0, 1, 2, 3, 4, 5, 6, 7, 8, 9, 10, 11, 12, 13, 14] 15 16 (.leaf [16, 17, 18]) (.leaf [15, 17, 18])) mixed (by kernel_rfl) ?_|refine CW.drawsS (id := 12) 13 [0,1,2,3,4,5,6,7,8,9,10,11,12,13,14,15,16,17] mixed (by kernel_rfl) ?_|refine TRW.fork ?_|refine TRW.leaf ?_|refine TRW.both ?_ ?_|refine Gi2 (fun _=>?_) fun _=>?_|refine Gi3 ?_|refine Gi4 fun _=>?_|fail)
   refine OW.call (works30 _) ?_
   rintro _ _ ⟨rfl, rfl⟩
   repeat' (first|refine Gi0 fun _=>?_|refine Gi1 ?_|refine CW.drawsTreeA (id := 9) (.fork [0, 1, 2, 3, 4, 5, 6, 7, 8, 9, 10, 11, 12, 13, 14] 15 16 (.leaf [16, 17, 18]) (.leaf [15, 17, 18])) mixed (by kernel_rfl) ?_|refine CW.drawsS (id := 12) 13 [0,1,2,3,4,5,6,7,8,9,10,11,12,13,14,15,16,17] mixed (by kernel_rfl) ?_|refine TRW.fork ?_|refine TRW.leaf ?_|refine TRW.both ?_ ?_|refine Gi2 (fun _=>?_) fun _=>?_|refine Gi3 ?_|refine Gi4 fun _=>?_|fail)
   exact bodyK.retD L (Res.one Tryz.results8) ⟨rfl, rfl⟩
  ·cases hs : srch l (l.length + 1) ⟨a0, a1, []⟩ [] with
   | none =>
    rw [hs] at hm
    subst hm
    repeat' (first|refine Gi0 fun _=>?_|refine Gi1 ?_|refine CW.drawsTreeA (id := 9) (.fork [0, 1, 2, 3, 4, 5, 6, 7, 8, 9, 10, 11, 12, 13, 14] 15 16 (.leaf [16, 17, 18]) (.leaf [15, 17, 18])) mixed (by kernel_rfl) ?_|refine CW.drawsS (id := 12) 13 [0,1,2,3,4,5,6,7,8,9,10,11,12,13,14,15,16,17] mixed (by kernel_rfl) ?_|refine TRW.fork ?_|refine TRW.leaf ?_|refine TRW.both ?_ ?_|refine Gi2 (fun _=>?_) fun _=>?_|refine Gi3 ?_|refine Gi4 fun _=>?_|fail)
    refine OW.call (num30 _ _) ?_
    rintro _ _ ⟨rfl, rfl⟩
    repeat' (first|refine Gi0 fun _=>?_|refine Gi1 ?_|refine CW.drawsTreeA (id := 9) (.fork [0, 1, 2, 3, 4, 5, 6, 7, 8, 9, 10, 11, 12, 13, 14] 15 16 (.leaf [16, 17, 18]) (.leaf [15, 17, 18])) mixed (by kernel_rfl) ?_|refine CW.drawsS (id := 12) 13 [0,1,2,3,4,5,6,7,8,9,10,11,12,13,14,15,16,17] mixed (by kernel_rfl) ?_|refine TRW.fork ?_|refine TRW.leaf ?_|refine TRW.both ?_ ?_|refine Gi2 (fun _=>?_) fun _=>?_|refine Gi3 ?_|refine Gi4 fun _=>?_|fail)
    refine OW.call (works30 _) ?_
    rintro _ _ ⟨rfl, rfl⟩
    repeat' (first|refine Gi0 fun _=>?_|refine Gi1 ?_|refine CW.drawsTreeA (id := 9) (.fork [0, 1, 2, 3, 4, 5, 6, 7, 8, 9, 10, 11, 12, 13, 14] 15 16 (.leaf [16, 17, 18]) (.leaf [15, 17, 18])) mixed (by kernel_rfl) ?_|refine CW.drawsS (id := 12) 13 [0,1,2,3,4,5,6,7,8,9,10,11,12,13,14,15,16,17] mixed (by kernel_rfl) ?_|refine TRW.fork ?_|refine TRW.leaf ?_|refine TRW.both ?_ ?_|refine Gi2 (fun _=>?_) fun _=>?_|refine Gi3 ?_|refine Gi4 fun _=>?_|fail)
    exact bodyK.retD L (Res.one Tryz.results8) ⟨rfl, rfl⟩
   | some r =>
    rw [hs] at hm
    obtain ⟨w, rfl, hrd⟩ := hm
    have sw := hrd.sng
    obtain ⟨t, ht1, ht2, ht3⟩ := srch_right _ _ _ _ hs
    rw [List.nil_append] at ht1
    subst ht1
    have hok2 := right_ok r [] _ (by simp) (fun _ h => (by cases h)) ht2
    rw [List.nil_append] at hok2
    have hpr := perm_range hok2.1 hok2.2 ht3
    obtain ⟨ar, cr, rfl, _⟩ := hrd.isSlice
    obtain ⟨al, cl, rfl⟩ := hl.slice
    repeat' (first|refine Gi0 fun _=>?_|refine Gi1 ?_|refine CW.drawsTreeA (id := 9) (.fork [0, 1, 2, 3, 4, 5, 6, 7, 8, 9, 10, 11, 12, 13, 14] 15 16 (.leaf [16, 17, 18]) (.leaf [15, 17, 18])) mixed (by kernel_rfl) ?_|refine CW.drawsS (id := 12) 13 [0,1,2,3,4,5,6,7,8,9,10,11,12,13,14,15,16,17] mixed (by kernel_rfl) ?_|refine TRW.fork ?_|refine TRW.leaf ?_|refine TRW.both ?_ ?_|refine Gi2 (fun _=>?_) fun _=>?_|refine Gi3 ?_|refine Gi4 fun _=>?_|fail)
    refine OW.call (num30 _ _) ?_
    rintro _ _ ⟨rfl, rfl⟩
    repeat' (first|refine Gi0 fun _=>?_|refine Gi1 ?_|refine CW.drawsTreeA (id := 9) (.fork [0, 1, 2, 3, 4, 5, 6, 7, 8, 9, 10, 11, 12, 13, 14] 15 16 (.leaf [16, 17, 18]) (.leaf [15, 17, 18])) mixed (by kernel_rfl) ?_|refine CW.drawsS (id := 12) 13 [0,1,2,3,4,5,6,7,8,9,10,11,12,13,14,15,16,17] mixed (by kernel_rfl) ?_|refine TRW.fork ?_|refine TRW.leaf ?_|refine TRW.both ?_ ?_|refine Gi2 (fun _=>?_) fun _=>?_|refine Gi3 ?_|refine Gi4 fun _=>?_|fail)
    refine CW.count (r.length - 1) (fun i ρ ds L' => ds = [] ∧ (∃ X, L' = X ++ (N ++ L)) ∧ Ev ρ 0 (.int .i64 a0) ∧ Ev ρ 1 (.int .i64 a1) ∧ Ev ρ 2 (.slice al l.length cl) ∧ Ev ρ 7 (.slice ar r.length cr) ∧ Ev ρ 10 (.int .i64 (i : Int))) ⟨rfl, ⟨[], rfl⟩, inferInstance, inferInstance, inferInstance, inferInstance, inferInstance⟩ ?_
    rintro i ρ ds L' hi ⟨rfl, ⟨X, rfl⟩, e0, e1, e2, e7, e10⟩
    by_cases hlt : i + 1 < r.length
    ·obtain ⟨bk, kk, capk, lk, ek, frk, hbe, hbin, hbc, hbn⟩ := hrd.open1 (by omega)
     cases hbe
     have hl0 : i < r.length := by omega
     have n1 := hbn i (.int .i64 (r[i] : Int)) hl0 (by simp [List.getElem?_eq_getElem hl0])
     have n2 := hbn (i + 1) (.int .i64 (r[i + 1] : Int)) hlt (by simp [List.getElem?_eq_getElem hlt])
     have ha := hok2.2 r[i] (List.getElem_mem hl0)
     have hb := hok2.2 r[i + 1] (List.getElem_mem hlt)
     have t1 : ToN ((i : Int) + 1) (i + 1) := ⟨by omega⟩
     have hlti : (i : Int) + 1 < r.length := by omega
     have hsw := swap2 hlt
     have hsp := split2 hlt
     clear hbn
     obtain ⟨bj, kj, capj, lj, ej, frj, hbe, hbinj, hbcj, hbnj⟩ := hl.open (by omega)
     cases hbe
     obtain ⟨cc, hcut, vx, vb, rfl, hvx, hvb, htr⟩ := hbnj _ ha
     obtain ⟨cc, hcuti, wx, wb, rfl, hwx, hwb, htri⟩ := hbnj _ hb
     clear hbnj
     have q1 := hvx.sng
     have q2 := hvb.sng
     have q3 := hwx.sng
     have q4 := hwb.sng
     have gx := List.getElem?_eq_getElem ha
     have gy := List.getElem?_eq_getElem hb
     generalize hA : r[i] = a at *
     generalize hB : r[i + 1] = b at *
     generalize l[a] = x at *
     generalize l[b] = y at *
     have hai : (a : Int) < l.length := by omega
     have hbi : (b : Int) < l.length := by omega
     repeat' (first|refine Gi0 fun _=>?_|refine Gi1 ?_|refine CW.drawsTreeA (id := 9) (.fork [0, 1, 2, 3, 4, 5, 6, 7, 8, 9, 10, 11, 12, 13, 14] 15 16 (.leaf [16, 17, 18]) (.leaf [15, 17, 18])) mixed (by kernel_rfl) ?_|refine CW.drawsS (id := 12) 13 [0,1,2,3,4,5,6,7,8,9,10,11,12,13,14,15,16,17] mixed (by kernel_rfl) ?_|refine TRW.fork ?_|refine TRW.leaf ?_|refine TRW.both ?_ ?_|refine Gi2 (fun _=>?_) fun _=>?_|refine Gi3 ?_|refine Gi4 fun _=>?_|fail)
     ·refine OW.call (rAhead x y vx vb wx wb _) ?_
      rintro _ _ ⟨rfl, rfl⟩
      by_cases c1 : aheadP x y
      ·rw [decide_eq_true c1]
       repeat' (first|refine Gi0 fun _=>?_|refine Gi1 ?_|refine CW.drawsTreeA (id := 9) (.fork [0, 1, 2, 3, 4, 5, 6, 7, 8, 9, 10, 11, 12, 13, 14] 15 16 (.leaf [16, 17, 18]) (.leaf [15, 17, 18])) mixed (by kernel_rfl) ?_|refine CW.drawsS (id := 12) 13 [0,1,2,3,4,5,6,7,8,9,10,11,12,13,14,15,16,17] mixed (by kernel_rfl) ?_|refine TRW.fork ?_|refine TRW.leaf ?_|refine TRW.both ?_ ?_|refine Gi2 (fun _=>?_) fun _=>?_|refine Gi3 ?_|refine Gi4 fun _=>?_|fail)
       exact ⟨by omega, rfl, ⟨_, Pre.out⟩, inferInstance, inferInstance, inferInstance, inferInstance, by rw [Int.natCast_add]; infer_instance⟩
      ·rw [decide_eq_false c1]
       by_cases c2 : x.op.kind = 5
       ·by_cases c3 : y.op.kind = 5
        ·repeat' (first|refine Gi0 fun _=>?_|refine Gi1 ?_|refine CW.drawsTreeA (id := 9) (.fork [0, 1, 2, 3, 4, 5, 6, 7, 8, 9, 10, 11, 12, 13, 14] 15 16 (.leaf [16, 17, 18]) (.leaf [15, 17, 18])) mixed (by kernel_rfl) ?_|refine CW.drawsS (id := 12) 13 [0,1,2,3,4,5,6,7,8,9,10,11,12,13,14,15,16,17] mixed (by kernel_rfl) ?_|refine TRW.fork ?_|refine TRW.leaf ?_|refine TRW.both ?_ ?_|refine Gi2 (fun _=>?_) fun _=>?_|refine Gi3 ?_|refine Gi4 fun _=>?_|fail)
         rename_i b73
         refine OW.append (N := [(b73, .cells #[] 3 (0, 0))]) (n := 0) (xs := []) ⟨rfl, .inr ⟨b73, 0, [], rfl, rfl, Nat.le_refl _, rfl⟩⟩ inferInstance (hrd.mono fun q hq => by simp [hq]) (fun v hv => by obtain ⟨k, _, rfl⟩ := List.mem_map.1 hv; infer_instance) (by omega) (fun w' N' hrow' => ?_)
         rw [Nat.zero_add, List.nil_append] at hrow'
         obtain ⟨hrl, hrow2⟩ := hrow'
         rcases hrow2 with ⟨_, h0, _⟩ | ⟨bz, cap, rest, rfl, rfl, hcap, hrest⟩
         ·omega
         have s1 : SetL (inN r ++ rest) i (.int .i64 (b : Int)) (inN (r.set i b) ++ rest) := ⟨by simp; omega, by rw [List.set_append_left _ _ (by simp; omega)]; simp [inN, List.map_set]⟩
         have s2 : SetL (inN (r.set i b) ++ rest) (i + 1) (.int .i64 (a : Int)) (inN ((r.set i b).set (i + 1) a) ++ rest) := ⟨by simp; omega, by rw [List.set_append_left _ _ (by simp; omega)]; simp [inN, List.map_set]⟩
         have hul : ((r.set i b).set (i + 1) a).length = r.length := by simp
         have hup : ((r.set i b).set (i + 1) a).Perm (List.range l.length) := by
          rw [hsw]
          refine List.Perm.trans ?_ hpr
          conv => rhs; rw [hsp]
          exact List.Perm.append_left _ (List.Perm.swap ..)
         have hur : rightP l ⟨a0, a1, []⟩ [] ((r.set i b).set (i + 1) a) = true := by
          rw [hsw]
          rw [hsp] at ht2
          exact right_swap ⟨x, gx, c2⟩ ⟨y, gy, c3⟩ (fun x' y' h1 h2 => by
           rw [gx] at h1
           rw [gy] at h2
           cases h1
           cases h2
           exact c1) _ _ _ _ ht2
         have hRs : SubC [(bk, Obj.cells lk.toArray ek frk)] N := ⟨List.singleton_sublist.2 hbin.out⟩
         clear hsw hsp
         repeat' (first|refine Gi0 fun _=>?_|refine Gi1 ?_|refine CW.drawsTreeA (id := 9) (.fork [0, 1, 2, 3, 4, 5, 6, 7, 8, 9, 10, 11, 12, 13, 14] 15 16 (.leaf [16, 17, 18]) (.leaf [15, 17, 18])) mixed (by kernel_rfl) ?_|refine TRW.fork ?_|refine TRW.leaf ?_|refine TRW.both ?_ ?_|refine Gi2 (fun _=>?_) fun _=>?_|refine Gi3 ?_|refine Gi4 fun _=>?_|fail)
         refine CW.drawsR [(bk, Obj.cells lk.toArray ek frk)] [0, 1, 2, 3, 4, 5, 6, 7, 8, 9, 10, 11, 12, 13, 14, 15, 16, 17] mixed (by kernel_rfl) ?_
         repeat' (first|refine Gi0 fun _=>?_|refine Gi1 ?_|refine CW.drawsTreeA (id := 9) (.fork [0, 1, 2, 3, 4, 5, 6, 7, 8, 9, 10, 11, 12, 13, 14] 15 16 (.leaf [16, 17, 18]) (.leaf [15, 17, 18])) mixed (by kernel_rfl) ?_|refine CW.drawsS (id := 12) 13 [0,1,2,3,4,5,6,7,8,9,10,11,12,13,14,15,16,17] mixed (by kernel_rfl) ?_|refine TRW.fork ?_|refine TRW.leaf ?_|refine TRW.both ?_ ?_|refine Gi2 (fun _=>?_) fun _=>?_|refine Gi3 ?_|refine Gi4 fun _=>?_|fail)
         generalize hU : (r.set i b).set (i + 1) a = u at *
         refine OW.call (oRight a0 a1 _ _ u l _ (LS.to hl (fun c a h => TdAt.to c a h)) (by
          have h : Row 3 1 [(bz, .cells (inN u ++ rest).toArray 3 (0, 0))] (.slice (some ⟨bz, 0, none⟩) r.length cap) r.length (inN u) := ⟨by simp [hul], .inr ⟨bz, cap, rest, rfl, rfl, hcap, by simpa [hul] using hrest⟩⟩
          rw [hul]
          exact h.to) hf hup) ?_
         rintro _ _ ⟨rfl, rfl⟩
         rw [hur]
         repeat' (first|refine Gi0 fun _=>?_|refine Gi1 ?_|refine CW.drawsTreeA (id := 9) (.fork [0, 1, 2, 3, 4, 5, 6, 7, 8, 9, 10, 11, 12, 13, 14] 15 16 (.leaf [16, 17, 18]) (.leaf [15, 17, 18])) mixed (by kernel_rfl) ?_|refine CW.drawsS (id := 12) 13 [0,1,2,3,4,5,6,7,8,9,10,11,12,13,14,15,16,17] mixed (by kernel_rfl) ?_|refine TRW.fork ?_|refine TRW.leaf ?_|refine TRW.both ?_ ?_|refine Gi2 (fun _=>?_) fun _=>?_|refine Gi3 ?_|refine Gi4 fun _=>?_|fail)
         refine OW.call (num30 _ _) ?_
         rintro _ _ ⟨rfl, rfl⟩
         repeat' (first|refine Gi0 fun _=>?_|refine Gi1 ?_|refine CW.drawsTreeA (id := 9) (.fork [0, 1, 2, 3, 4, 5, 6, 7, 8, 9, 10, 11, 12, 13, 14] 15 16 (.leaf [16, 17, 18]) (.leaf [15, 17, 18])) mixed (by kernel_rfl) ?_|refine CW.drawsS (id := 12) 13 [0,1,2,3,4,5,6,7,8,9,10,11,12,13,14,15,16,17] mixed (by kernel_rfl) ?_|refine TRW.fork ?_|refine TRW.leaf ?_|refine TRW.both ?_ ?_|refine Gi2 (fun _=>?_) fun _=>?_|refine Gi3 ?_|refine Gi4 fun _=>?_|fail)
         exact ⟨by omega, rfl, ⟨_, Pre.out⟩, inferInstance, inferInstance, inferInstance, inferInstance, by rw [Int.natCast_add]; infer_instance⟩
        ·repeat' (first|refine Gi0 fun _=>?_|refine Gi1 ?_|refine CW.drawsTreeA (id := 9) (.fork [0, 1, 2, 3, 4, 5, 6, 7, 8, 9, 10, 11, 12, 13, 14] 15 16 (.leaf [16, 17, 18]) (.leaf [15, 17, 18])) mixed (by kernel_rfl) ?_|refine CW.drawsS (id := 12) 13 [0,1,2,3,4,5,6,7,8,9,10,11,12,13,14,15,16,17] mixed (by kernel_rfl) ?_|refine TRW.fork ?_|refine TRW.leaf ?_|refine TRW.both ?_ ?_|refine Gi2 (fun _=>?_) fun _=>?_|refine Gi3 ?_|refine Gi4 fun _=>?_|fail)
         exact ⟨by omega, rfl, ⟨_, Pre.out⟩, inferInstance, inferInstance, inferInstance, inferInstance, by rw [Int.natCast_add]; infer_instance⟩
       ·repeat' (first|refine Gi0 fun _=>?_|refine Gi1 ?_|refine CW.drawsTreeA (id := 9) (.fork [0, 1, 2, 3, 4, 5, 6, 7, 8, 9, 10, 11, 12, 13, 14] 15 16 (.leaf [16, 17, 18]) (.leaf [15, 17, 18])) mixed (by kernel_rfl) ?_|refine CW.drawsS (id := 12) 13 [0,1,2,3,4,5,6,7,8,9,10,11,12,13,14,15,16,17] mixed (by kernel_rfl) ?_|refine TRW.fork ?_|refine TRW.leaf ?_|refine TRW.both ?_ ?_|refine Gi2 (fun _=>?_) fun _=>?_|refine Gi3 ?_|refine Gi4 fun _=>?_|fail)
        exact ⟨by omega, rfl, ⟨_, Pre.out⟩, inferInstance, inferInstance, inferInstance, inferInstance, by rw [Int.natCast_add]; infer_instance⟩
     ·refine OW.call (rAhead x y vx vb wx wb _) ?_
      rintro _ _ ⟨rfl, rfl⟩
      by_cases c1 : aheadP x y
      ·rw [decide_eq_true c1]
       repeat' (first|refine Gi0 fun _=>?_|refine Gi1 ?_|refine CW.drawsTreeA (id := 9) (.fork [0, 1, 2, 3, 4, 5, 6, 7, 8, 9, 10, 11, 12, 13, 14] 15 16 (.leaf [16, 17, 18]) (.leaf [15, 17, 18])) mixed (by kernel_rfl) ?_|refine CW.drawsS (id := 12) 13 [0,1,2,3,4,5,6,7,8,9,10,11,12,13,14,15,16,17] mixed (by kernel_rfl) ?_|refine TRW.fork ?_|refine TRW.leaf ?_|refine TRW.both ?_ ?_|refine Gi2 (fun _=>?_) fun _=>?_|refine Gi3 ?_|refine Gi4 fun _=>?_|fail)
       exact ⟨by omega, rfl, ⟨_, Pre.out⟩, inferInstance, inferInstance, inferInstance, inferInstance, by rw [Int.natCast_add]; infer_instance⟩
      ·rw [decide_eq_false c1]
       by_cases c2 : x.op.kind = 5
       ·by_cases c3 : y.op.kind = 5
        ·repeat' (first|refine Gi0 fun _=>?_|refine Gi1 ?_|refine CW.drawsTreeA (id := 9) (.fork [0, 1, 2, 3, 4, 5, 6, 7, 8, 9, 10, 11, 12, 13, 14] 15 16 (.leaf [16, 17, 18]) (.leaf [15, 17, 18])) mixed (by kernel_rfl) ?_|refine CW.drawsS (id := 12) 13 [0,1,2,3,4,5,6,7,8,9,10,11,12,13,14,15,16,17] mixed (by kernel_rfl) ?_|refine TRW.fork ?_|refine TRW.leaf ?_|refine TRW.both ?_ ?_|refine Gi2 (fun _=>?_) fun _=>?_|refine Gi3 ?_|refine Gi4 fun _=>?_|fail)
         rename_i b73
         refine OW.append (N := [(b73, .cells #[] 3 (0, 0))]) (n := 0) (xs := []) ⟨rfl, .inr ⟨b73, 0, [], rfl, rfl, Nat.le_refl _, rfl⟩⟩ inferInstance (hrd.mono fun q hq => by simp [hq]) (fun v hv => by obtain ⟨k, _, rfl⟩ := List.mem_map.1 hv; infer_instance) (by omega) (fun w' N' hrow' => ?_)
         rw [Nat.zero_add, List.nil_append] at hrow'
         obtain ⟨hrl, hrow2⟩ := hrow'
         rcases hrow2 with ⟨_, h0, _⟩ | ⟨bz, cap, rest, rfl, rfl, hcap, hrest⟩
         ·omega
         have s1 : SetL (inN r ++ rest) i (.int .i64 (b : Int)) (inN (r.set i b) ++ rest) := ⟨by simp; omega, by rw [List.set_append_left _ _ (by simp; omega)]; simp [inN, List.map_set]⟩
         have s2 : SetL (inN (r.set i b) ++ rest) (i + 1) (.int .i64 (a : Int)) (inN ((r.set i b).set (i + 1) a) ++ rest) := ⟨by simp; omega, by rw [List.set_append_left _ _ (by simp; omega)]; simp [inN, List.map_set]⟩
         have hul : ((r.set i b).set (i + 1) a).length = r.length := by simp
         have hup : ((r.set i b).set (i + 1) a).Perm (List.range l.length) := by
          rw [hsw]
          refine List.Perm.trans ?_ hpr
          conv => rhs; rw [hsp]
          exact List.Perm.append_left _ (List.Perm.swap ..)
         have hur : rightP l ⟨a0, a1, []⟩ [] ((r.set i b).set (i + 1) a) = true := by
          rw [hsw]
          rw [hsp] at ht2
          exact right_swap ⟨x, gx, c2⟩ ⟨y, gy, c3⟩ (fun x' y' h1 h2 => by
           rw [gx] at h1
           rw [gy] at h2
           cases h1
           cases h2
           exact c1) _ _ _ _ ht2
         have hRs : SubC [(bk, Obj.cells lk.toArray ek frk)] N := ⟨List.singleton_sublist.2 hbin.out⟩
         clear hsw hsp
         repeat' (first|refine Gi0 fun _=>?_|refine Gi1 ?_|refine CW.drawsTreeA (id := 9) (.fork [0, 1, 2, 3, 4, 5, 6, 7, 8, 9, 10, 11, 12, 13, 14] 15 16 (.leaf [16, 17, 18]) (.leaf [15, 17, 18])) mixed (by kernel_rfl) ?_|refine TRW.fork ?_|refine TRW.leaf ?_|refine TRW.both ?_ ?_|refine Gi2 (fun _=>?_) fun _=>?_|refine Gi3 ?_|refine Gi4 fun _=>?_|fail)
         refine CW.drawsR [(bk, Obj.cells lk.toArray ek frk)] [0, 1, 2, 3, 4, 5, 6, 7, 8, 9, 10, 11, 12, 13, 14, 15, 16, 17] mixed (by kernel_rfl) ?_
         repeat' (first|refine Gi0 fun _=>?_|refine Gi1 ?_|refine CW.drawsTreeA (id := 9) (.fork [0, 1, 2, 3, 4, 5, 6, 7, 8, 9, 10, 11, 12, 13, 14] 15 16 (.leaf [16, 17, 18]) (.leaf [15, 17, 18])) mixed (by kernel_rfl) ?_|refine CW.drawsS (id := 12) 13 [0,1,2,3,4,5,6,7,8,9,10,11,12,13,14,15,16,17] mixed (by kernel_rfl) ?_|refine TRW.fork ?_|refine TRW.leaf ?_|refine TRW.both ?_ ?_|refine Gi2 (fun _=>?_) fun _=>?_|refine Gi3 ?_|refine Gi4 fun _=>?_|fail)
         generalize hU : (r.set i b).set (i + 1) a = u at *
         refine OW.call (oRight a0 a1 _ _ u l _ (LS.to hl (fun c a h => TdAt.to c a h)) (by
          have h : Row 3 1 [(bz, .cells (inN u ++ rest).toArray 3 (0, 0))] (.slice (some ⟨bz, 0, none⟩) r.length cap) r.length (inN u) := ⟨by simp [hul], .inr ⟨bz, cap, rest, rfl, rfl, hcap, by simpa [hul] using hrest⟩⟩
          rw [hul]
          exact h.to) hf hup) ?_
         rintro _ _ ⟨rfl, rfl⟩
         rw [hur]
         repeat' (first|refine Gi0 fun _=>?_|refine Gi1 ?_|refine CW.drawsTreeA (id := 9) (.fork [0, 1, 2, 3, 4, 5, 6, 7, 8, 9, 10, 11, 12, 13, 14] 15 16 (.leaf [16, 17, 18]) (.leaf [15, 17, 18])) mixed (by kernel_rfl) ?_|refine CW.drawsS (id := 12) 13 [0,1,2,3,4,5,6,7,8,9,10,11,12,13,14,15,16,17] mixed (by kernel_rfl) ?_|refine TRW.fork ?_|refine TRW.leaf ?_|refine TRW.both ?_ ?_|refine Gi2 (fun _=>?_) fun _=>?_|refine Gi3 ?_|refine Gi4 fun _=>?_|fail)
         refine OW.call (num30 _ _) ?_
         rintro _ _ ⟨rfl, rfl⟩
         repeat' (first|refine Gi0 fun _=>?_|refine Gi1 ?_|refine CW.drawsTreeA (id := 9) (.fork [0, 1, 2, 3, 4, 5, 6, 7, 8, 9, 10, 11, 12, 13, 14] 15 16 (.leaf [16, 17, 18]) (.leaf [15, 17, 18])) mixed (by kernel_rfl) ?_|refine CW.drawsS (id := 12) 13 [0,1,2,3,4,5,6,7,8,9,10,11,12,13,14,15,16,17] mixed (by kernel_rfl) ?_|refine TRW.fork ?_|refine TRW.leaf ?_|refine TRW.both ?_ ?_|refine Gi2 (fun _=>?_) fun _=>?_|refine Gi3 ?_|refine Gi4 fun _=>?_|fail)
         exact ⟨by omega, rfl, ⟨_, Pre.out⟩, inferInstance, inferInstance, inferInstance, inferInstance, by rw [Int.natCast_add]; infer_instance⟩
        ·repeat' (first|refine Gi0 fun _=>?_|refine Gi1 ?_|refine CW.drawsTreeA (id := 9) (.fork [0, 1, 2, 3, 4, 5, 6, 7, 8, 9, 10, 11, 12, 13, 14] 15 16 (.leaf [16, 17, 18]) (.leaf [15, 17, 18])) mixed (by kernel_rfl) ?_|refine CW.drawsS (id := 12) 13 [0,1,2,3,4,5,6,7,8,9,10,11,12,13,14,15,16,17] mixed (by kernel_rfl) ?_|refine TRW.fork ?_|refine TRW.leaf ?_|refine TRW.both ?_ ?_|refine Gi2 (fun _=>?_) fun _=>?_|refine Gi3 ?_|refine Gi4 fun _=>?_|fail)
         exact ⟨by omega, rfl, ⟨_, Pre.out⟩, inferInstance, inferInstance, inferInstance, inferInstance, by rw [Int.natCast_add]; infer_instance⟩
       ·repeat' (first|refine Gi0 fun _=>?_|refine Gi1 ?_|refine CW.drawsTreeA (id := 9) (.fork [0, 1, 2, 3, 4, 5, 6, 7, 8, 9, 10, 11, 12, 13, 14] 15 16 (.leaf [16, 17, 18]) (.leaf [15, 17, 18])) mixed (by kernel_rfl) ?_|refine CW.drawsS (id := 12) 13 [0,1,2,3,4,5,6,7,8,9,10,11,12,13,14,15,16,17] mixed (by kernel_rfl) ?_|refine TRW.fork ?_|refine TRW.leaf ?_|refine TRW.both ?_ ?_|refine Gi2 (fun _=>?_) fun _=>?_|refine Gi3 ?_|refine Gi4 fun _=>?_|fail)
        exact ⟨by omega, rfl, ⟨_, Pre.out⟩, inferInstance, inferInstance, inferInstance, inferInstance, by rw [Int.natCast_add]; infer_instance⟩
    ·have hd : i = r.length - 1 := by omega
     have hlti : ¬ (i : Int) + 1 < r.length := by omega
     repeat' (first|refine Gi0 fun _=>?_|refine Gi1 ?_|refine CW.drawsTreeA (id := 9) (.fork [0, 1, 2, 3, 4, 5, 6, 7, 8, 9, 10, 11, 12, 13, 14] 15 16 (.leaf [16, 17, 18]) (.leaf [15, 17, 18])) mixed (by kernel_rfl) ?_|refine CW.drawsS (id := 12) 13 [0,1,2,3,4,5,6,7,8,9,10,11,12,13,14,15,16,17] mixed (by kernel_rfl) ?_|refine TRW.fork ?_|refine TRW.leaf ?_|refine TRW.both ?_ ?_|refine Gi2 (fun _=>?_) fun _=>?_|refine Gi3 ?_|refine Gi4 fun _=>?_|fail)
     refine OW.call (kind_ 5 _) ?_
     rintro _ _ ⟨rfl, rfl⟩
     rw [show decide ((1 : Int) ≤ 5 ∧ (5 : Int) ≤ 7) = true by decide]
     repeat' (first|refine Gi0 fun _=>?_|refine Gi1 ?_|refine CW.drawsTreeA (id := 9) (.fork [0, 1, 2, 3, 4, 5, 6, 7, 8, 9, 10, 11, 12, 13, 14] 15 16 (.leaf [16, 17, 18]) (.leaf [15, 17, 18])) mixed (by kernel_rfl) ?_|refine CW.drawsS (id := 12) 13 [0,1,2,3,4,5,6,7,8,9,10,11,12,13,14,15,16,17] mixed (by kernel_rfl) ?_|refine TRW.fork ?_|refine TRW.leaf ?_|refine TRW.both ?_ ?_|refine Gi2 (fun _=>?_) fun _=>?_|refine Gi3 ?_|refine Gi4 fun _=>?_|fail)
     refine OW.call (works30 _) ?_
     rintro _ _ ⟨rfl, rfl⟩
     repeat' (first|refine Gi0 fun _=>?_|refine Gi1 ?_|refine CW.drawsTreeA (id := 9) (.fork [0, 1, 2, 3, 4, 5, 6, 7, 8, 9, 10, 11, 12, 13, 14] 15 16 (.leaf [16, 17, 18]) (.leaf [15, 17, 18])) mixed (by kernel_rfl) ?_|refine CW.drawsS (id := 12) 13 [0,1,2,3,4,5,6,7,8,9,10,11,12,13,14,15,16,17] mixed (by kernel_rfl) ?_|refine TRW.fork ?_|refine TRW.leaf ?_|refine TRW.both ?_ ?_|refine Gi2 (fun _=>?_) fun _=>?_|refine Gi3 ?_|refine Gi4 fun _=>?_|fail)
     exact bodyK.retD L (Res.one Tryz.results8) ⟨rfl, rfl⟩
 ·repeat' (first|refine Gi0 fun _=>?_|refine Gi1 ?_|refine CW.drawsTreeA (id := 9) (.fork [0, 1, 2, 3, 4, 5, 6, 7, 8, 9, 10, 11, 12, 13, 14] 15 16 (.leaf [16, 17, 18]) (.leaf [15, 17, 18])) mixed (by kernel_rfl) ?_|refine CW.drawsS (id := 12) 13 [0,1,2,3,4,5,6,7,8,9,10,11,12,13,14,15,16,17] mixed (by kernel_rfl) ?_|refine TRW.fork ?_|refine TRW.leaf ?_|refine TRW.both ?_ ?_|refine Gi2 (fun _=>?_) fun _=>?_|refine Gi3 ?_|refine Gi4 fun _=>?_|fail)
  refine OW.call (works30 _) ?_
  rintro _ _ ⟨rfl, rfl⟩
  repeat' (first|refine Gi0 fun _=>?_|refine Gi1 ?_|refine CW.drawsTreeA (id := 9) (.fork [0, 1, 2, 3, 4, 5, 6, 7, 8, 9, 10, 11, 12, 13, 14] 15 16 (.leaf [16, 17, 18]) (.leaf [15, 17, 18])) mixed (by kernel_rfl) ?_|refine CW.drawsS (id := 12) 13 [0,1,2,3,4,5,6,7,8,9,10,11,12,13,14,15,16,17] mixed (by kernel_rfl) ?_|refine TRW.fork ?_|refine TRW.leaf ?_|refine TRW.both ?_ ?_|refine Gi2 (fun _=>?_) fun _=>?_|refine Gi3 ?_|refine Gi4 fun _=>?_|fail)
  exact bodyK.retD L (Res.one Tryz.results8) ⟨rfl, rfl⟩
end Go.Proofs.YtmnhooepaemlcaaGreat
