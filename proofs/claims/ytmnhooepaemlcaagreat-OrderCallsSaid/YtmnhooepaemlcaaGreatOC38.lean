/- OrderCalls: true for every input; arguments as before. Part 38. Conditions: none. -/
import Derived.Test.YtmnhooepaemlcaaGreatOC2
import Derived.Test.YtmnhooepaemlcaaGreatOC3
import Derived.Test.YtmnhooepaemlcaaGreatOC37
set_option linter.all false
namespace Go.Proofs.YtmnhooepaemlcaaGreat
open Go Go.Pw Go.Pw.Sc Go.Pw.Md Go.Pw.Jd Go.Pw.Or
set_option maxRecDepth 100000
set_option maxHeartbeats 4000000
set_option synthInstance.maxHeartbeats 400000
set_option synthInstance.maxSize 2000
attribute [local irreducible] CW OW RW thenK blockK
attribute [local irreducible] scopeK loopK TRW ATW
theorem parted30 (v : Value) (l : List (Turn × Rp)) (L : Chunk) (hl : LS 24 RoAt L v l) (h60 : l.length ≤ 60) : Fn1 Tryz.prog 31 [v] L (fun u L' => ∃ va vb N, u = .tuple #[va, vb] ∧ L' = N ++ L ∧ LS 13 TnAt (N ++ L) va (l.map (·.1)) ∧ LS 11 RpAt (N ++ L) vb (l.map (·.2))) := by
 obtain ⟨al, cl, rfl⟩ := hl.slice
 have hll : (l.length : Int) ≤ 60 := by omega
 intro w0; refine Spec.enter1 Tryz.func31 rfl Tryz.ntmps31 (by decide) ?_
 have z6:DrT 6 (.fork [0, 1, 2, 3, 4, 5, 8, 9, 10, 11, 12, 13] 6 14 (.fork [] 7 14 (.leaf [14, 15, 16, 17]) (.leaf [7, 15, 16, 17])) (.leaf [6, 7, 15, 16, 17])):=⟨⟨⟩⟩
 repeat' (first|refine Gi0 fun _=>?_|refine Gi1 ?_|refine TRW.fork ?_|refine TRW.leaf ?_|refine TRW.both ?_ ?_|refine Gi2 (fun _=>?_) fun _=>?_|refine Gi3 ?_|refine Gi4 fun _=>?_|fail)
 refine CW.count l.length (fun i ρ ds L' => ds = [] ∧ (∃ X N1 N2 va vb xs ys, Row 108 13 N1 va i xs ∧ LAt 13 (TnAt L) xs ((l.take i).map (·.1)) ∧ Row 113 11 N2 vb i ys ∧ LAt 11 (RpAt L) ys ((l.take i).map (·.2)) ∧ L' = X ++ (N1 ++ (N2 ++ L)) ∧ Ev ρ 4 va ∧ Ev ρ 5 vb) ∧ Ev ρ 0 (.slice al l.length cl) ∧ Ev ρ 6 (.int .i64 (i : Int)))
  ⟨rfl, ⟨[], [], [], _, _, [], [], Row.nil _ _, rfl, Row.nil _ _, rfl, rfl, ii, ii⟩, ii, ii⟩ ?_
 rintro i ρ ds L' hi ⟨rfl, ⟨X, N1, N2, va, vb, xs, ys, hr1, hl1, hr2, hl2, rfl, e4, e5⟩, e0, e6⟩
 have s1 := hr1.sng
 have s2 := hr2.sng
 by_cases hlt : i < l.length
 ·obtain ⟨bk, kk, capk, lk, ek, frk, hbe, hbin, hbc, hbn⟩ := hl.open (by omega)
  cases hbe
  obtain ⟨cc, hcut, wb, wd, wo, rfl, hvb, hvd, hvo, htr, hrr⟩ := hbn i hlt
  have hlti : (i : Int) < l.length := by omega
  have hts : l.take (i + 1) = l.take i ++ [l[i]] := by rw [List.take_add_one, List.getElem?_eq_getElem hlt]; rfl
  rw [hts, List.map_append, List.map_append]
  clear hbn hts
  generalize l[i] = a at *
  obtain ⟨t, r⟩ := a
  simp only at hvb hvd hvo htr hrr
  simp only [tcells, rcells, List.cons_append, List.nil_append] at hcut
  have q1 := hvb.sng
  have q2 := hvd.sng
  have q3 := hvo.sng
  have g0 : CutL lk (kk + i * 24) 13 (tcells t wb wd) := cutSub hcut 0 13 (by decide)
  have g1 : CutL lk (kk + i * 24 + 13) 11 (rcells r wo) := cutSub hcut 13 11 (by decide)
  have ht1 : ∀ u ∈ tcells t wb wd, Sng u := fun u hq => by
   simp only [tcells, List.mem_cons, List.not_mem_nil, or_false] at hq
   rcases hq with rfl | rfl | rfl | rfl | rfl | rfl | rfl | rfl | rfl | rfl | rfl | rfl | rfl <;> first | infer_instance | assumption
  have ht2 : ∀ u ∈ rcells r wo, Sng u := fun u hq => by
   simp only [rcells, List.mem_cons, List.not_mem_nil, or_false] at hq
   rcases hq with rfl | rfl | rfl | rfl | rfl | rfl | rfl | rfl | rfl | rfl | rfl <;> first | infer_instance | assumption
  have la := hl1.append (LAt.one (R := TnAt L) (c := tcells t wb wd) (a := t) rfl ⟨_, _, rfl, hvb, hvd, htr⟩)
  have lb := hl2.append (LAt.one (R := RpAt L) (c := rcells r wo) (a := r) rfl ⟨_, rfl, hvo, hrr⟩)
  repeat' (first|refine Gi0 fun _=>?_|refine Hi1 ?_|refine Gi2 (fun _=>?_) fun _=>?_|refine Gi3 ?_|refine Gi4 fun _=>?_|fail)
  refine CW.drawsPA (id := 6) [0, 1, 2, 3, 4, 5, 8, 9, 10, 11, 12, 13] (.two 6 14 (.two 7 14 (.one 14 (.one 15 (.one 16 (.one 17 .done)))) (.one 7 (.one 15 (.one 16 (.one 17 .done))))) (.one 6 (.one 7 (.one 15 (.one 16 (.one 17 .done)))))) L mixed (by kernel_rfl) ?_
  repeat' (first|refine Gi0 fun _=>?_|refine Gi1 ?_|refine TRW.fork ?_|refine TRW.leaf ?_|refine TRW.both ?_ ?_|refine Gi2 (fun _=>?_) fun _=>?_|refine Gi3 ?_|refine Gi4 fun _=>?_|fail)
  refine APW.t ?_ ?_
  ·repeat' (first|refine Gi0 fun _=>?_|refine Gi1 ?_|refine TRW.fork ?_|refine TRW.leaf ?_|refine TRW.both ?_ ?_|refine Gi2 (fun _=>?_) fun _=>?_|refine Gi3 ?_|refine Gi4 fun _=>?_|fail)
   refine ⟨fun q hq => by simp [hq], ?_⟩
   refine APW.t ?_ ?_
   ·refine OW.append hr1 ii (Rd.blk (n := 1) (l := tcells t wb wd) rfl (Nat.le_refl _)) ht1 (by omega) (fun v1 M1 hs1 => ?_)
    have z1 := hs1.sng
    repeat' (first|refine Gi0 fun _=>?_|refine Gi1 ?_|refine TRW.fork ?_|refine TRW.leaf ?_|refine TRW.both ?_ ?_|refine Gi2 (fun _=>?_) fun _=>?_|refine Gi3 ?_|refine Gi4 fun _=>?_|fail)
    refine ⟨fun q hq => by simp [hq], ?_⟩
    refine APW.o ?_
    repeat' (first|refine Gi0 fun _=>?_|refine Gi1 ?_|refine TRW.fork ?_|refine TRW.leaf ?_|refine TRW.both ?_ ?_|refine Gi2 (fun _=>?_) fun _=>?_|refine Gi3 ?_|refine Gi4 fun _=>?_|fail)
    refine ⟨fun q hq => by simp [hq], ?_⟩
    refine APW.o ?_
    refine OW.append hr2 ii (Rd.blk (n := 1) (l := rcells r wo) rfl (Nat.le_refl _)) ht2 (by omega) (fun v2 M2 hs2 => ?_)
    have z2 := hs2.sng
    repeat' (first|refine Gi0 fun _=>?_|refine Gi1 ?_|refine TRW.fork ?_|refine TRW.leaf ?_|refine TRW.both ?_ ?_|refine Gi2 (fun _=>?_) fun _=>?_|refine Gi3 ?_|refine Gi4 fun _=>?_|fail)
    refine ⟨fun q hq => by simp [hq], ?_⟩
    refine APW.o ?_
    repeat' (first|refine Gi0 fun _=>?_|refine Gi1 ?_|refine TRW.fork ?_|refine TRW.leaf ?_|refine TRW.both ?_ ?_|refine Gi2 (fun _=>?_) fun _=>?_|refine Gi3 ?_|refine Gi4 fun _=>?_|fail)
    refine ⟨fun q hq => by simp [hq], ?_⟩
    refine APW.o ?_
    repeat' (first|refine Gi0 fun _=>?_|refine Gi1 ?_|refine TRW.fork ?_|refine TRW.leaf ?_|refine TRW.both ?_ ?_|refine Gi2 (fun _=>?_) fun _=>?_|refine Gi3 ?_|refine Gi4 fun _=>?_|fail)
    refine ⟨fun q hq => by simp [hq], ?_⟩
    refine APW.d ?_
    repeat' (first|refine Gi0 fun _=>?_|refine Gi1 ?_|refine TRW.fork ?_|refine TRW.leaf ?_|refine TRW.both ?_ ?_|refine Gi2 (fun _=>?_) fun _=>?_|refine Gi3 ?_|refine Gi4 fun _=>?_|fail)
    exact ⟨hlt, rfl, ⟨_ :: _ :: X, M1, M2, v1, v2, _, _, hs1, la, hs2, lb, rfl, ii, ii⟩, ii, by rw [Int.natCast_add]; infer_instance⟩
   ·repeat' (first|refine Gi0 fun _=>?_|refine Gi1 ?_|refine TRW.fork ?_|refine TRW.leaf ?_|refine TRW.both ?_ ?_|refine Gi2 (fun _=>?_) fun _=>?_|refine Gi3 ?_|refine Gi4 fun _=>?_|fail)
    refine ⟨fun q hq => by simp [hq], ?_⟩
    refine APW.o ?_
    refine OW.append hr1 ii (Rd.blk (n := 1) (l := tcells t wb wd) rfl (Nat.le_refl _)) ht1 (by omega) (fun v1 M1 hs1 => ?_)
    have z1 := hs1.sng
    repeat' (first|refine Gi0 fun _=>?_|refine Gi1 ?_|refine TRW.fork ?_|refine TRW.leaf ?_|refine TRW.both ?_ ?_|refine Gi2 (fun _=>?_) fun _=>?_|refine Gi3 ?_|refine Gi4 fun _=>?_|fail)
    refine ⟨fun q hq => by simp [hq], ?_⟩
    refine APW.o ?_
    refine OW.append hr2 ii (Rd.blk (n := 1) (l := rcells r wo) rfl (Nat.le_refl _)) ht2 (by omega) (fun v2 M2 hs2 => ?_)
    have z2 := hs2.sng
    repeat' (first|refine Gi0 fun _=>?_|refine Gi1 ?_|refine TRW.fork ?_|refine TRW.leaf ?_|refine TRW.both ?_ ?_|refine Gi2 (fun _=>?_) fun _=>?_|refine Gi3 ?_|refine Gi4 fun _=>?_|fail)
    refine ⟨fun q hq => by simp [hq], ?_⟩
    refine APW.o ?_
    repeat' (first|refine Gi0 fun _=>?_|refine Gi1 ?_|refine TRW.fork ?_|refine TRW.leaf ?_|refine TRW.both ?_ ?_|refine Gi2 (fun _=>?_) fun _=>?_|refine Gi3 ?_|refine Gi4 fun _=>?_|fail)
    refine ⟨fun q hq => by simp [hq], ?_⟩
    refine APW.o ?_
    repeat' (first|refine Gi0 fun _=>?_|refine Gi1 ?_|refine TRW.fork ?_|refine TRW.leaf ?_|refine TRW.both ?_ ?_|refine Gi2 (fun _=>?_) fun _=>?_|refine Gi3 ?_|refine Gi4 fun _=>?_|fail)
    refine ⟨fun q hq => by simp [hq], ?_⟩
    refine APW.d ?_
    repeat' (first|refine Gi0 fun _=>?_|refine Gi1 ?_|refine TRW.fork ?_|refine TRW.leaf ?_|refine TRW.both ?_ ?_|refine Gi2 (fun _=>?_) fun _=>?_|refine Gi3 ?_|refine Gi4 fun _=>?_|fail)
    exact ⟨hlt, rfl, ⟨_ :: _ :: X, M1, M2, v1, v2, _, _, hs1, la, hs2, lb, rfl, ii, ii⟩, ii, by rw [Int.natCast_add]; infer_instance⟩
  ·repeat' (first|refine Gi0 fun _=>?_|refine Gi1 ?_|refine TRW.fork ?_|refine TRW.leaf ?_|refine TRW.both ?_ ?_|refine Gi2 (fun _=>?_) fun _=>?_|refine Gi3 ?_|refine Gi4 fun _=>?_|fail)
   refine ⟨fun q hq => by simp [hq], ?_⟩
   refine APW.o ?_
   repeat' (first|refine Gi0 fun _=>?_|refine Gi1 ?_|refine TRW.fork ?_|refine TRW.leaf ?_|refine TRW.both ?_ ?_|refine Gi2 (fun _=>?_) fun _=>?_|refine Gi3 ?_|refine Gi4 fun _=>?_|fail)
   refine ⟨fun q hq => by simp [hq], ?_⟩
   refine APW.o ?_
   refine OW.append hr1 ii (Rd.blk (n := 1) (l := tcells t wb wd) rfl (Nat.le_refl _)) ht1 (by omega) (fun v1 M1 hs1 => ?_)
   have z1 := hs1.sng
   repeat' (first|refine Gi0 fun _=>?_|refine Gi1 ?_|refine TRW.fork ?_|refine TRW.leaf ?_|refine TRW.both ?_ ?_|refine Gi2 (fun _=>?_) fun _=>?_|refine Gi3 ?_|refine Gi4 fun _=>?_|fail)
   refine ⟨fun q hq => by simp [hq], ?_⟩
   refine APW.o ?_
   refine OW.append hr2 ii (Rd.blk (n := 1) (l := rcells r wo) rfl (Nat.le_refl _)) ht2 (by omega) (fun v2 M2 hs2 => ?_)
   have z2 := hs2.sng
   repeat' (first|refine Gi0 fun _=>?_|refine Gi1 ?_|refine TRW.fork ?_|refine TRW.leaf ?_|refine TRW.both ?_ ?_|refine Gi2 (fun _=>?_) fun _=>?_|refine Gi3 ?_|refine Gi4 fun _=>?_|fail)
   refine ⟨fun q hq => by simp [hq], ?_⟩
   refine APW.o ?_
   repeat' (first|refine Gi0 fun _=>?_|refine Gi1 ?_|refine TRW.fork ?_|refine TRW.leaf ?_|refine TRW.both ?_ ?_|refine Gi2 (fun _=>?_) fun _=>?_|refine Gi3 ?_|refine Gi4 fun _=>?_|fail)
   refine ⟨fun q hq => by simp [hq], ?_⟩
   refine APW.o ?_
   repeat' (first|refine Gi0 fun _=>?_|refine Gi1 ?_|refine TRW.fork ?_|refine TRW.leaf ?_|refine TRW.both ?_ ?_|refine Gi2 (fun _=>?_) fun _=>?_|refine Gi3 ?_|refine Gi4 fun _=>?_|fail)
   refine ⟨fun q hq => by simp [hq], ?_⟩
   refine APW.d ?_
   repeat' (first|refine Gi0 fun _=>?_|refine Gi1 ?_|refine TRW.fork ?_|refine TRW.leaf ?_|refine TRW.both ?_ ?_|refine Gi2 (fun _=>?_) fun _=>?_|refine Gi3 ?_|refine Gi4 fun _=>?_|fail)
   exact ⟨hlt, rfl, ⟨_ :: _ :: X, M1, M2, v1, v2, _, _, hs1, la, hs2, lb, rfl, ii, ii⟩, ii, by rw [Int.natCast_add]; infer_instance⟩
 ·obtain rfl : i = l.length := by omega
  rw [List.take_length] at hl1 hl2
  repeat' (first|refine Gi0 fun _=>?_|refine Gi1 ?_|refine TRW.fork ?_|refine TRW.leaf ?_|refine TRW.both ?_ ?_|refine Gi2 (fun _=>?_) fun _=>?_|refine Gi3 ?_|refine Gi4 fun _=>?_|fail)
  refine bodyK.ret (Res.two Tryz.results31) ⟨va, vb, X ++ (N1 ++ N2), rfl, by simp, ?_, ?_⟩
  ·exact LS.of_row (D := L) (by rw [List.length_map]; exact hr1) hl1 (by rw [List.length_map]; omega) (fun q hq => by simp [hq]) (fun c a h => TnAt.to (hm := ⟨fun q hq => by simp [hq]⟩) c a h)
  ·exact LS.of_row (D := L) (by rw [List.length_map]; exact hr2) hl2 (by rw [List.length_map]; omega) (fun q hq => by simp [hq]) (fun c a h => RpAt.to (hm := ⟨fun q hq => by simp [hq]⟩) c a h)
end Go.Proofs.YtmnhooepaemlcaaGreat
