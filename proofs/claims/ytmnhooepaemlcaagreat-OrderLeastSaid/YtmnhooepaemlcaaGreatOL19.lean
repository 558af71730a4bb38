/-
  For every input the law OrderLeast returns true, and each argument reads behind the call as it read before. This text holds lemmas for it (part 19).
  Conditions: none.
-/
import Derived.Test.YtmnhooepaemlcaaGreatOL2
import Derived.Test.YtmnhooepaemlcaaGreatOL14
import Derived.Test.YtmnhooepaemlcaaGreatOL18
set_option linter.all false
namespace Go.Proofs.YtmnhooepaemlcaaGreat
open Go Go.Pw Go.Pw.Sc Go.Pw.Md Go.Pw.Or
set_option maxRecDepth 100000
set_option maxHeartbeats 4000000
set_option synthInstance.maxHeartbeats 400000
set_option synthInstance.maxSize 2000
attribute [local irreducible] CW OW RW thenK blockK
attribute [local irreducible] scopeK loopK TRW ATW
theorem rFree (lv ov : Value) (l : List Td) (o : List Nat) (i : Nat) (hi : i < l.length) (L : Chunk) (hl : LS 13 TdAt L lv l) (hv : Rd L 1 ov o.length (inN o)) (ho : ∀ k ∈ o, k < l.length) (hol : o.length ≤ l.length) (hc : checkE l = 0) :
  Fn1 Tryz.prog 97 [lv, ov, .int .i64 (i : Int)] L (fun u L' => u = .bool (freeP l o i) ∧ L = L') := by
 have h10 := len10 hc
 obtain ⟨al, cl, rfl⟩ := hl.slice
 have hll := hl.len
 obtain ⟨av, cv, rfl, _⟩ := hv.isSlice
 intro w0; refine Spec.enter3 Tryz.func97 rfl Tryz.ntmps97 (by decide) ?_
 repeat' (first|refine Gi0 fun _=>?_|refine Gi1 ?_|refine CW.drawsP (id := 11) [0,1,2,3,4,5,6,7,8,9,10,11,12,13,14,15,16,17,18,19,20] mixed (by kernel_rfl) ?_|refine Gi2 (fun _=>?_) fun _=>?_|refine Gi3 ?_|refine Gi4 fun _=>?_|fail)
 refine OW.makeSlice ⟨by omega, by omega, by omega, by omega⟩ (fun b7 => ?_)
 rw [← flags_nil]
 repeat' (first|refine Gi0 fun _=>?_|refine Gi1 ?_|refine CW.drawsP (id := 11) [0,1,2,3,4,5,6,7,8,9,10,11,12,13,14,15,16,17,18,19,20] mixed (by kernel_rfl) ?_|refine Gi2 (fun _=>?_) fun _=>?_|refine Gi3 ?_|refine Gi4 fun _=>?_|fail)
 refine CW.count o.length (fun k ρ ds L' => ds = [] ∧ L' = (b7, .cells (flagsL l.length (o.take k)).toArray 4 (0, 0)) :: L ∧ Ev ρ 0 (.slice al l.length cl) ∧ Ev ρ 1 (.slice av o.length cv) ∧ Ev ρ 2 (.int .i64 (i : Int)) ∧ Ev ρ 7 (.slice (some ⟨b7, 0, none⟩) l.length l.length) ∧ Ev ρ 8 (.int .i64 (k : Int))) ⟨rfl, by rw [List.take_zero], inferInstance, inferInstance, inferInstance, inferInstance, inferInstance⟩ ?_
 rintro k ρ ds L' hk ⟨rfl, rfl, e0, e1, e2, e7, e8⟩
 by_cases hlt : k < o.length
 ·obtain ⟨bk, kk, capk, lk, ek, frk, hbe, hbin, hbc, hbn⟩ := hv.open1 (by omega)
  cases hbe
  have hnth := hbn k (.int .i64 (o[k] : Int)) hlt (by simp [List.getElem?_eq_getElem hlt])
  have hok := ho o[k] (List.getElem_mem hlt)
  have hts : o.take (k + 1) = o.take k ++ [o[k]] := by rw [List.take_add_one, List.getElem?_eq_getElem hlt]; rfl
  have hlti : (k : Int) < o.length := by omega
  clear hbn
  generalize o[k] = z at *
  have hset : SetL (flagsL l.length (o.take k)) z (.bool true) (flagsL l.length (o.take (k + 1))) := ⟨by rw [flags_len]; exact hok, by rw [flags_set, hts]⟩
  have hzi : (z : Int) < l.length := by omega
  repeat' (first|refine Gi0 fun _=>?_|refine Gi1 ?_|refine CW.drawsP (id := 11) [0,1,2,3,4,5,6,7,8,9,10,11,12,13,14,15,16,17,18,19,20] mixed (by kernel_rfl) ?_|refine Gi2 (fun _=>?_) fun _=>?_|refine Gi3 ?_|refine Gi4 fun _=>?_|fail)
  exact ⟨hlt, rfl, rfl, inferInstance, inferInstance, inferInstance, inferInstance, by rw [Int.natCast_add]; infer_instance⟩
 ·obtain rfl : k = o.length := by omega
  rw [List.take_length]
  have hni : NthO' i l.length := ⟨hi⟩
  have hii : (i : Int) < l.length := by omega
  cases hci : o.contains i with
  | true =>
   have hnth : NthL (flagsL l.length o) i (.bool true) := by rw [← hci]; infer_instance
   rw [free_come hi hci]
   repeat' (first|refine Gi0 fun _=>?_|refine Gi1 ?_|refine CW.drawsP (id := 11) [0,1,2,3,4,5,6,7,8,9,10,11,12,13,14,15,16,17,18,19,20] mixed (by kernel_rfl) ?_|refine Gi2 (fun _=>?_) fun _=>?_|refine Gi3 ?_|refine Gi4 fun _=>?_|fail)
   exact bodyK.retD L (Res.one Tryz.results97) ⟨rfl, rfl⟩
  | false =>
   have hnth : NthL (flagsL l.length o) i (.bool false) := by rw [← hci]; infer_instance
   repeat' (first|refine Gi0 fun _=>?_|refine Gi1 ?_|refine CW.drawsP (id := 11) [0,1,2,3,4,5,6,7,8,9,10,11,12,13,14,15,16,17,18,19,20] mixed (by kernel_rfl) ?_|refine Gi2 (fun _=>?_) fun _=>?_|refine Gi3 ?_|refine Gi4 fun _=>?_|fail)
   refine CW.count l.length (fun k ρ ds L' => ds = [] ∧ L' = (b7, .cells (flagsL l.length o).toArray 4 (0, 0)) :: L ∧ (∀ j (hj : j < l.length), j < k → aheadP l[j] l[i] → o.contains j = true) ∧ Ev ρ 0 (.slice al l.length cl) ∧ Ev ρ 2 (.int .i64 (i : Int)) ∧ Ev ρ 7 (.slice (some ⟨b7, 0, none⟩) l.length l.length) ∧ Ev ρ 9 (.int .i64 (k : Int))) ⟨rfl, rfl, fun j _ hj => by omega, inferInstance, inferInstance, inferInstance, inferInstance⟩ ?_
   clear e0 e1 e2 e7 e8
   rintro k ρ ds L' hk ⟨rfl, rfl, hI, e0, e2, e7, e9⟩
   by_cases hlk : k < l.length
   ·obtain ⟨bk, kk, capk, lk, ek, frk, hbe, hbin, hbc, hbn⟩ := hl.open (by omega)
    cases hbe
    obtain ⟨cc, hcut, vx, vb, rfl, hvx, hvb, htr⟩ := hbn k hlk
    obtain ⟨cc, hcuti, wx, wb, rfl, hwx, hwb, htri⟩ := hbn i hi
    have q1 := hvx.sng
    have q2 := hvb.sng
    have q3 := hwx.sng
    have q4 := hwb.sng
    have hki : (k : Int) < l.length := by omega
    have hnk : NthO' k l.length := ⟨hlk⟩
    have hself := ahead_self (check_ok hc hi).1
    have hnx : (aheadP l[k] l[i] → o.contains k = true) → ∀ j (hj : j < l.length), j < k + 1 → aheadP l[j] l[i] → o.contains j = true := fun h j hj hjk ha => by
     by_cases e : j = k
     ·subst e; exact h ha
     ·exact hI j hj (by omega) ha
    have hfalse : ∀ ha : aheadP l[k] l[i], o.contains k = false → freeP l o i = false := fun ha h => free_no hi hlk ha h
    cases hck : o.contains k with
    | true =>
     have hnthk : NthL (flagsL l.length o) k (.bool true) := by rw [← hck]; infer_instance
     have hnx2 := hnx (fun _ => hck)
     clear hbn
     repeat' (first|refine Gi0 fun _=>?_|refine Gi1 ?_|refine CW.drawsP (id := 11) [0,1,2,3,4,5,6,7,8,9,10,11,12,13,14,15,16,17,18,19,20] mixed (by kernel_rfl) ?_|refine Gi2 (fun _=>?_) fun _=>?_|refine Gi3 ?_|refine Gi4 fun _=>?_|fail)
     exact ⟨hlk, rfl, rfl, hnx2, inferInstance, inferInstance, inferInstance, by rw [Int.natCast_add]; infer_instance⟩
    | false =>
     have hnthk : NthL (flagsL l.length o) k (.bool false) := by rw [← hck]; infer_instance
     by_cases hik : k = i
     ·subst hik
      have hnx2 := hnx (fun ha => absurd ha hself)
      clear hbn
      repeat' (first|refine Gi0 fun _=>?_|refine Gi1 ?_|refine CW.drawsP (id := 11) [0,1,2,3,4,5,6,7,8,9,10,11,12,13,14,15,16,17,18,19,20] mixed (by kernel_rfl) ?_|refine Gi2 (fun _=>?_) fun _=>?_|refine Gi3 ?_|refine Gi4 fun _=>?_|fail)
      exact ⟨hlk, rfl, rfl, hnx2, inferInstance, inferInstance, inferInstance, by rw [Int.natCast_add]; infer_instance⟩
     ·have hiki : ¬ (k : Int) = i := by omega
      have hfalse2 := fun ha => hfalse ha hck
      clear hbn hI hself hfalse
      generalize hx0 : l[k] = x at *
      generalize hy0 : l[i] = y at *
      repeat' (first|refine Gi0 fun _=>?_|refine Gi1 ?_|refine CW.drawsP (id := 11) [0,1,2,3,4,5,6,7,8,9,10,11,12,13,14,15,16,17,18,19,20] mixed (by kernel_rfl) ?_|refine Gi2 (fun _=>?_) fun _=>?_|refine Gi3 ?_|refine Gi4 fun _=>?_|fail)
      refine RW.call (rAhead x y vx vb wx wb _) ?_
      rintro _ _ ⟨rfl, rfl⟩
      refine pinAll ?_
      by_cases ha : aheadP x y
      ·rw [decide_eq_true ha, hfalse2 ha]
       repeat' (first|refine Gi0 fun _=>?_|refine Gi1 ?_|refine CW.drawsP (id := 11) [0,1,2,3,4,5,6,7,8,9,10,11,12,13,14,15,16,17,18,19,20] mixed (by kernel_rfl) ?_|refine Gi2 (fun _=>?_) fun _=>?_|refine Gi3 ?_|refine Gi4 fun _=>?_|fail)
       exact bodyK.retD L (Res.one Tryz.results97) ⟨rfl, rfl⟩
      ·rw [decide_eq_false ha]
       have hnx2 := hnx (fun h => absurd h ha)
       repeat' (first|refine Gi0 fun _=>?_|refine Gi1 ?_|refine CW.drawsP (id := 11) [0,1,2,3,4,5,6,7,8,9,10,11,12,13,14,15,16,17,18,19,20] mixed (by kernel_rfl) ?_|refine Gi2 (fun _=>?_) fun _=>?_|refine Gi3 ?_|refine Gi4 fun _=>?_|fail)
       refine ⟨hlk, rfl, rfl, ?_, inferInstance, inferInstance, inferInstance, by rw [Int.natCast_add]; infer_instance⟩
       intro j hj hjk haj
       exact hnx2 j hj hjk haj
   ·obtain rfl : k = l.length := by omega
    rw [free_yes hi hci fun j hj ha => hI j hj hj ha]
    repeat' (first|refine Gi0 fun _=>?_|refine Gi1 ?_|refine CW.drawsP (id := 11) [0,1,2,3,4,5,6,7,8,9,10,11,12,13,14,15,16,17,18,19,20] mixed (by kernel_rfl) ?_|refine Gi2 (fun _=>?_) fun _=>?_|refine Gi3 ?_|refine Gi4 fun _=>?_|fail)
    exact bodyK.retD L (Res.one Tryz.results97) ⟨rfl, rfl⟩
theorem rRight (slot quota : Int) (ov lv : Value) (zs : List Int) (l : List Td) (L : Chunk) (hl : LS 13 TdAt L lv l) (hv : Rd L 1 ov zs.length (zs.map (Value.int .i64))) (hz : zs.length ≤ 1000) (hfe : findE slot quota l = 0) :
  Fn1 Tryz.prog 41 [.int .i64 slot, .int .i64 quota, ov, lv] L (fun u L' => ((∃ o : List Nat, zs = o.map (fun (k : Nat) => (k : Int)) ∧ o.Perm (List.range l.length) ∧ u = .tuple #[.bool (rightP l ⟨slot, quota, []⟩ [] o), .int .i64 0]) ∨ u = .tuple #[.bool false, .int .i64 2]) ∧ L = L') := by
 have hok : okS slot quota := by
  unfold findE at hfe
  split at hfe
  ·assumption
  ·cases hfe
 have hch : checkE l = 0 := by unfold findE at hfe; rwa [if_pos hok] at hfe
 have h10 := len10 hch
 have sl := hl.sng
 have sov := hv.sng
 obtain ⟨av, cv, rfl⟩ := hl.slice
 obtain ⟨aw, cw, rfl, _⟩ := hv.isSlice
 intro w0; refine Spec.enter4 Tryz.func41 rfl Tryz.ntmps41 (by decide) ?_
 repeat' (first|refine Gi0 fun _=>?_|refine Gi1 ?_|refine CW.drawsP (id := 10) [0,1,2,3,4,5,6,7,8,9] mixed (by kernel_rfl) ?_|refine CW.drawsTreeA (id := 12) (.fork [0, 1, 2, 3, 4, 5, 6, 7, 8, 9, 10, 11, 12, 13, 14, 15, 16] 17 21 (.leaf [18, 19, 20, 21, 22, 23]) (.leaf [17, 18, 19, 20, 22, 23])) mixed (by kernel_rfl) ?_|refine TRW.fork ?_|refine TRW.leaf ?_|refine TRW.both ?_ ?_|refine Gi2 (fun _=>?_) fun _=>?_|refine Gi3 ?_|refine Gi4 fun _=>?_|fail)
 refine OW.call (rAsked0 slot quota _ l _ hl hfe) ?_
 rintro _ _ ⟨rfl, rfl⟩
 repeat' (first|refine Gi0 fun _=>?_|refine Gi1 ?_|refine CW.drawsP (id := 10) [0,1,2,3,4,5,6,7,8,9] mixed (by kernel_rfl) ?_|refine CW.drawsTreeA (id := 12) (.fork [0, 1, 2, 3, 4, 5, 6, 7, 8, 9, 10, 11, 12, 13, 14, 15, 16] 17 21 (.leaf [18, 19, 20, 21, 22, 23]) (.leaf [17, 18, 19, 20, 22, 23])) mixed (by kernel_rfl) ?_|refine TRW.fork ?_|refine TRW.leaf ?_|refine TRW.both ?_ ?_|refine Gi2 (fun _=>?_) fun _=>?_|refine Gi3 ?_|refine Gi4 fun _=>?_|fail)
 refine OW.call (rPlaces _ zs l.length _ hv h10 hz) ?_
 rintro _ _ ⟨⟨rfl, o, rfl, hp⟩ | rfl, rfl⟩
 ·have hno : o.length = l.length := by simpa using hp.length_eq
  rw [List.length_map, List.map_map] at hv
  have hv' : Rd L 1 (.slice aw o.length cw) o.length (inN o) := hv
  rw [List.length_map] at sov ⊢
  have hnd : o.Nodup := hp.symm.nodup List.nodup_range
  have hlt : ∀ i ∈ o, i < l.length := fun i hi => List.mem_range.1 (hp.subset hi)
  repeat' (first|refine Gi0 fun _=>?_|refine Gi1 ?_|refine CW.drawsP (id := 10) [0,1,2,3,4,5,6,7,8,9] mixed (by kernel_rfl) ?_|refine CW.drawsTreeA (id := 12) (.fork [0, 1, 2, 3, 4, 5, 6, 7, 8, 9, 10, 11, 12, 13, 14, 15, 16] 17 21 (.leaf [18, 19, 20, 21, 22, 23]) (.leaf [17, 18, 19, 20, 22, 23])) mixed (by kernel_rfl) ?_|refine TRW.fork ?_|refine TRW.leaf ?_|refine TRW.both ?_ ?_|refine Gi2 (fun _=>?_) fun _=>?_|refine Gi3 ?_|refine Gi4 fun _=>?_|fail)
  rename_i b11
  refine CW.count o.length (fun i ρ ds L' => ds = [] ∧ (∃ (X : Chunk) (m : Mod) (w : Value), Sng w ∧ RL (X ++ L) w m.L ∧ WF m ∧ L' = X ++ ((b11, .cells #[.int .i64 m.slot, .int .i64 m.quota, w] 72 (0, 0)) :: L) ∧ rightP l m (o.take i) (o.drop i) = rightP l ⟨slot, quota, []⟩ [] o) ∧ Ev ρ 2 (.slice aw o.length cw) ∧ Ev ρ 3 (.slice av l.length cv) ∧ Ev ρ 11 (ptr b11) ∧ Ev ρ 12 (.int .i64 (i : Int)))
   ⟨rfl, ⟨[], ⟨slot, quota, []⟩, .slice none 0 0, inferInstance, ⟨⟨[], ⟨rfl, .inl ⟨⟨_, _, rfl⟩, rfl⟩⟩, rfl⟩, by simp⟩, wf_new hok, rfl, rfl⟩, inferInstance, inferInstance, inferInstance, inferInstance⟩ ?_
  rintro i ρ ds L' hi ⟨rfl, ⟨X, m, w, sw, hrl, hwf, rfl, hfin⟩, e2, e3, e11, e12⟩
  by_cases hlt' : i < o.length
  ·obtain ⟨bv, kv, capv, lvv, ev_, frv, hbe, hbinv, hbcv, hbnv⟩ := hv'.open1 (by omega)
   cases hbe
   have hnth := hbnv i (.int .i64 (o[i] : Int)) hlt' (by simp [List.getElem?_eq_getElem hlt'])
   have hat := hlt o[i] (List.getElem_mem hlt')
   have hdr : o.drop i = o[i] :: o.drop (i + 1) := List.drop_eq_getElem_cons hlt'
   have hts : o.take (i + 1) = o.take i ++ [o[i]] := by rw [List.take_add_one, List.getElem?_eq_getElem hlt']; rfl
   rw [hdr, rightP] at hfin
   clear hbnv hdr
   generalize o[i] = a at *
   obtain ⟨bk, kk, capk, lk, ek, frk, hbe, hbin, hbc, hbn⟩ := hl.open (by omega)
   cases hbe
   obtain ⟨cc, hcut, vx, vb, rfl, hvx, hvb, htr⟩ := hbn a hat
   have q1 := hvx.sng
   have q2 := hvb.sng
   have hai : (a : Int) < l.length := by omega
   have hoi : (i : Int) < o.length := by omega
   have hmay : mayP l m a = (Md.next m l[a].op l[a].out).2 := by unfold mayP; rw [List.getElem?_eq_getElem hat]
   have hnext : nextP l m a = after m l[a].op l[a].out := by unfold nextP; rw [List.getElem?_eq_getElem hat]
   have hcok := (check_ok hch hat).1
   have hk : 1 ≤ l[a].op.kind ∧ l[a].op.kind ≤ 7 := ⟨hcok.2.2.2.2.1, hcok.2.2.2.2.2⟩
   have hnn : Md.next m l[a].op l[a].out = Md.step m l[a].op l[a].out := by unfold Md.next; rw [if_pos hk]
   have hsub := hv'.sl (lo := 0) (hi := i) (by omega) (by omega)
   have hsub2 : Rd L 1 (slV (.slice (some ⟨bv, kv, none⟩) o.length cw) 0 i 1) (o.take i).length (inN (o.take i)) := by
    rw [Nat.zero_mul, List.drop_zero, Nat.sub_zero, Nat.mul_one] at hsub
    rw [List.length_take, Nat.min_eq_left (by omega), show inN (o.take i) = (inN o).take i by simp [inN, List.map_take]]
    exact hsub
   have hfree := fun L hl' hv' => rFree (.slice (some ⟨bk, kk, none⟩) l.length cv) (slV (.slice (some ⟨bv, kv, none⟩) o.length cw) 0 i 1) l (o.take i) a hat L hl' hv' (fun k hk => hlt k (List.mem_of_mem_take hk)) (by rw [List.length_take]; omega) hch
   clear hbn hcok
   generalize l[a] = x at *
   have hlL : ∀ Y, LS 13 TdAt (Y ++ L) (.slice (some ⟨bk, kk, none⟩) l.length cv) l := fun Y => LS.to hl (fun c a h => TdAt.to c a h)
   repeat' (first|refine Gi0 fun _=>?_|refine Gi1 ?_|refine CW.drawsP (id := 10) [0,1,2,3,4,5,6,7,8,9] mixed (by kernel_rfl) ?_|refine CW.drawsTreeA (id := 12) (.fork [0, 1, 2, 3, 4, 5, 6, 7, 8, 9, 10, 11, 12, 13, 14, 15, 16] 17 21 (.leaf [18, 19, 20, 21, 22, 23]) (.leaf [17, 18, 19, 20, 22, 23])) mixed (by kernel_rfl) ?_|refine TRW.fork ?_|refine TRW.leaf ?_|refine TRW.both ?_ ?_|refine Gi2 (fun _=>?_) fun _=>?_|refine Gi3 ?_|refine Gi4 fun _=>?_|fail)
   refine RW.slHi hv' ⟨by omega, by omega⟩ ?_
   have ssl : Sng (slV (.slice (some ⟨bv, kv, none⟩) o.length cw) 0 i 1) := hsub2.sng
   repeat' (first|refine Gi0 fun _=>?_|refine Gi1 ?_|refine CW.drawsP (id := 10) [0,1,2,3,4,5,6,7,8,9] mixed (by kernel_rfl) ?_|refine CW.drawsTreeA (id := 12) (.fork [0, 1, 2, 3, 4, 5, 6, 7, 8, 9, 10, 11, 12, 13, 14, 15, 16] 17 21 (.leaf [18, 19, 20, 21, 22, 23]) (.leaf [17, 18, 19, 20, 22, 23])) mixed (by kernel_rfl) ?_|refine TRW.fork ?_|refine TRW.leaf ?_|refine TRW.both ?_ ?_|refine Gi2 (fun _=>?_) fun _=>?_|refine Gi3 ?_|refine Gi4 fun _=>?_|fail)
   refine RW.call (hfree _ (LS.to hl (fun c a h => TdAt.to c a h)) hsub2.to) ?_
   rintro _ _ ⟨rfl, rfl⟩
   refine pinAll ?_
   cases hfr : freeP l (o.take i) a with
   | false =>
    rw [hfr, Bool.false_and, Bool.false_and] at hfin
    repeat' (first|refine Gi0 fun _=>?_|refine Gi1 ?_|refine CW.drawsP (id := 10) [0,1,2,3,4,5,6,7,8,9] mixed (by kernel_rfl) ?_|refine CW.drawsTreeA (id := 12) (.fork [0, 1, 2, 3, 4, 5, 6, 7, 8, 9, 10, 11, 12, 13, 14, 15, 16] 17 21 (.leaf [18, 19, 20, 21, 22, 23]) (.leaf [17, 18, 19, 20, 22, 23])) mixed (by kernel_rfl) ?_|refine TRW.fork ?_|refine TRW.leaf ?_|refine TRW.both ?_ ?_|refine Gi2 (fun _=>?_) fun _=>?_|refine Gi3 ?_|refine Gi4 fun _=>?_|fail)
    exact bodyK.retD L (Res.two Tryz.results41) ⟨.inl ⟨o, rfl, hp, by rw [← hfin]⟩, rfl⟩
   | true =>
    rw [hfr, Bool.true_and, hmay, hnn] at hfin
    have hc1 : CutL lk (kk + a * 13 + 1) 6 [.int .i64 x.op.kind, .int .u32 x.op.ad, .int .u64 x.op.size, .int .u64 x.op.mult, .int .u64 x.op.many, vx] := cutSub hcut 1 6 (by decide)
    have hc7 : CutL lk (kk + a * 13 + 7) 4 [.int .i64 x.out.errno, .int .u32 x.out.ad, .int .i64 x.out.n, vb] := cutSub hcut 7 4 (by decide)
    have hcall := fun (Z : Chunk) (hZ : ∀ q ∈ X ++ L, q ∈ Z) => rDo m hwf w x.op (opR_ htr.op) hk x.out vx vb (outR_ htr.out) (X ++ L) Z (hD := ⟨hZ⟩) hrl (BS.to hvx (hm := ⟨fun q hq => hZ q (List.mem_append_right _ hq)⟩)) (BS.to hvb (hm := ⟨fun q hq => hZ q (List.mem_append_right _ hq)⟩))
    have hwf2 : (Md.step m x.op x.out).2 = true → after m x.op x.out = (Md.step m x.op x.out).1 ∧ WF (Md.step m x.op x.out).1 := fun h => by
     have e : after m x.op x.out = (Md.step m x.op x.out).1 := by unfold after; rw [hnn, if_pos h]
     exact ⟨e, e ▸ after_wf hwf htr.out.ad.1 (fun z hz => by have := hvx.byt z hz; omega) (fun z hz => by have := hvb.byt z hz; omega)⟩
    repeat' (first|refine Gi0 fun _=>?_|refine Gi1 ?_|refine CW.drawsP (id := 10) [0,1,2,3,4,5,6,7,8,9] mixed (by kernel_rfl) ?_|refine CW.drawsTreeA (id := 12) (.fork [0, 1, 2, 3, 4, 5, 6, 7, 8, 9, 10, 11, 12, 13, 14, 15, 16] 17 21 (.leaf [18, 19, 20, 21, 22, 23]) (.leaf [17, 18, 19, 20, 22, 23])) mixed (by kernel_rfl) ?_|refine TRW.fork ?_|refine TRW.leaf ?_|refine TRW.both ?_ ?_|refine Gi2 (fun _=>?_) fun _=>?_|refine Gi3 ?_|refine Gi4 fun _=>?_|fail)
    ·refine RW.call (hcall _ (fun q hq => by rcases List.mem_append.1 hq with hq | hq <;> simp [hq])) ?_
     rintro _ _ ⟨m', v', N, rfl, rfl, sv', hm'⟩
     refine pinAll ?_
     cases hmm : (Md.step m x.op x.out).2 with
     | false =>
      rw [hmm] at hfin
      repeat' (first|refine Gi0 fun _=>?_|refine Gi1 ?_|refine CW.drawsP (id := 10) [0,1,2,3,4,5,6,7,8,9] mixed (by kernel_rfl) ?_|refine CW.drawsTreeA (id := 12) (.fork [0, 1, 2, 3, 4, 5, 6, 7, 8, 9, 10, 11, 12, 13, 14, 15, 16] 17 21 (.leaf [18, 19, 20, 21, 22, 23]) (.leaf [17, 18, 19, 20, 22, 23])) mixed (by kernel_rfl) ?_|refine TRW.fork ?_|refine TRW.leaf ?_|refine TRW.both ?_ ?_|refine Gi2 (fun _=>?_) fun _=>?_|refine Gi3 ?_|refine Gi4 fun _=>?_|fail)
      exact bodyK.retD L (Res.two Tryz.results41) ⟨.inl ⟨o, rfl, hp, by rw [← hfin]; rfl⟩, rfl⟩
     | true =>
      obtain ⟨rfl, hrl'⟩ := hm' hmm
      obtain ⟨he, hw'⟩ := hwf2 hmm
      rw [hmm, Bool.true_and, hnext, he, ← hts] at hfin
      repeat' (first|refine Gi0 fun _=>?_|refine Gi1 ?_|refine CW.drawsP (id := 10) [0,1,2,3,4,5,6,7,8,9] mixed (by kernel_rfl) ?_|refine CW.drawsTreeA (id := 12) (.fork [0, 1, 2, 3, 4, 5, 6, 7, 8, 9, 10, 11, 12, 13, 14, 15, 16] 17 21 (.leaf [18, 19, 20, 21, 22, 23]) (.leaf [17, 18, 19, 20, 22, 23])) mixed (by kernel_rfl) ?_|refine TRW.fork ?_|refine TRW.leaf ?_|refine TRW.both ?_ ?_|refine Gi2 (fun _=>?_) fun _=>?_|refine Gi3 ?_|refine Gi4 fun _=>?_|fail)
      rename_i b13
      refine ⟨hlt', rfl, ⟨(b13, Obj.cells #[.int .i64 (Md.step m x.op x.out).1.slot, .int .i64 (Md.step m x.op x.out).1.quota, v'] 72 (0, 0)) :: (N ++ X), _, v', sv', ?_, hw', by simp, hfin⟩, inferInstance, inferInstance, inferInstance, by rw [Int.natCast_add]; infer_instance⟩
      exact LS.to (hm := ⟨fun q hq => by
       simp only [List.mem_append, List.mem_cons] at hq ⊢
       rcases hq with hq | hq | hq <;> simp [hq]⟩) hrl' (fun c a h => PcR.to c a h)
    ·rename_i b13
     refine RW.call (hcall _ (fun q hq => by rcases List.mem_append.1 hq with hq | hq <;> simp [hq])) ?_
     rintro _ _ ⟨m', v', N, rfl, rfl, sv', hm'⟩
     refine pinOld ?_
     cases hmm : (Md.step m x.op x.out).2 with
     | false =>
      rw [hmm] at hfin
      repeat' (first|refine Gi0 fun _=>?_|refine Gi1 ?_|refine CW.drawsP (id := 10) [0,1,2,3,4,5,6,7,8,9] mixed (by kernel_rfl) ?_|refine CW.drawsTreeA (id := 12) (.fork [0, 1, 2, 3, 4, 5, 6, 7, 8, 9, 10, 11, 12, 13, 14, 15, 16] 17 21 (.leaf [18, 19, 20, 21, 22, 23]) (.leaf [17, 18, 19, 20, 22, 23])) mixed (by kernel_rfl) ?_|refine TRW.fork ?_|refine TRW.leaf ?_|refine TRW.both ?_ ?_|refine Gi2 (fun _=>?_) fun _=>?_|refine Gi3 ?_|refine Gi4 fun _=>?_|fail)
      exact bodyK.retD L (Res.two Tryz.results41) ⟨.inl ⟨o, rfl, hp, by rw [← hfin]; rfl⟩, rfl⟩
     | true =>
      obtain ⟨rfl, hrl'⟩ := hm' hmm
      obtain ⟨he, hw'⟩ := hwf2 hmm
      rw [hmm, Bool.true_and, hnext, he, ← hts] at hfin
      repeat' (first|refine Gi0 fun _=>?_|refine Gi1 ?_|refine CW.drawsP (id := 10) [0,1,2,3,4,5,6,7,8,9] mixed (by kernel_rfl) ?_|refine CW.drawsTreeA (id := 12) (.fork [0, 1, 2, 3, 4, 5, 6, 7, 8, 9, 10, 11, 12, 13, 14, 15, 16] 17 21 (.leaf [18, 19, 20, 21, 22, 23]) (.leaf [17, 18, 19, 20, 22, 23])) mixed (by kernel_rfl) ?_|refine TRW.fork ?_|refine TRW.leaf ?_|refine TRW.both ?_ ?_|refine Gi2 (fun _=>?_) fun _=>?_|refine Gi3 ?_|refine Gi4 fun _=>?_|fail)
      refine ⟨hlt', rfl, ⟨N ++ ((b13, Obj.cells #[.int .i64 (Md.step m x.op x.out).1.slot, .int .i64 (Md.step m x.op x.out).1.quota, v'] 72 (0, 0)) :: X), _, v', sv', ?_, hw', by simp, hfin⟩, inferInstance, inferInstance, inferInstance, by rw [Int.natCast_add]; infer_instance⟩
      exact LS.to (hm := ⟨fun q hq => by
       simp only [List.mem_append, List.mem_cons] at hq ⊢
       rcases hq with hq | hq | hq <;> simp [hq]⟩) hrl' (fun c a h => PcR.to c a h)
  ·obtain rfl : i = o.length := by omega
   rw [List.drop_length] at hfin
   repeat' (first|refine Gi0 fun _=>?_|refine Gi1 ?_|refine CW.drawsP (id := 10) [0,1,2,3,4,5,6,7,8,9] mixed (by kernel_rfl) ?_|refine CW.drawsTreeA (id := 12) (.fork [0, 1, 2, 3, 4, 5, 6, 7, 8, 9, 10, 11, 12, 13, 14, 15, 16] 17 21 (.leaf [18, 19, 20, 21, 22, 23]) (.leaf [17, 18, 19, 20, 22, 23])) mixed (by kernel_rfl) ?_|refine TRW.fork ?_|refine TRW.leaf ?_|refine TRW.both ?_ ?_|refine Gi2 (fun _=>?_) fun _=>?_|refine Gi3 ?_|refine Gi4 fun _=>?_|fail)
   exact bodyK.retD L (Res.two Tryz.results41) ⟨.inl ⟨o, rfl, hp, by rw [← hfin]; rfl⟩, rfl⟩
 ·repeat' (first|refine Gi0 fun _=>?_|refine Gi1 ?_|refine CW.drawsP (id := 10) [0,1,2,3,4,5,6,7,8,9] mixed (by kernel_rfl) ?_|refine CW.drawsTreeA (id := 12) (.fork [0, 1, 2, 3, 4, 5, 6, 7, 8, 9, 10, 11, 12, 13, 14, 15, 16] 17 21 (.leaf [18, 19, 20, 21, 22, 23]) (.leaf [17, 18, 19, 20, 22, 23])) mixed (by kernel_rfl) ?_|refine TRW.fork ?_|refine TRW.leaf ?_|refine TRW.both ?_ ?_|refine Gi2 (fun _=>?_) fun _=>?_|refine Gi3 ?_|refine Gi4 fun _=>?_|fail)
  exact bodyK.retD L (Res.two Tryz.results41) ⟨.inr rfl, rfl⟩
end Go.Proofs.YtmnhooepaemlcaaGreat
