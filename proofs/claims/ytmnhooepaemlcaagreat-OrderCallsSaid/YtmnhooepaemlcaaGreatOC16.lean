/- OrderCalls: true for every input; arguments as before. Part 16. Conditions: none. -/
import Derived.Test.YtmnhooepaemlcaaGreatOC2
import Derived.Test.YtmnhooepaemlcaaGreatOC3
import Derived.Test.YtmnhooepaemlcaaGreatOC15
set_option linter.all false
namespace Go.Proofs.YtmnhooepaemlcaaGreat
open Go Go.Pw Go.Pw.Sc Go.Pw.Md Go.Pw.Or
set_option maxRecDepth 100000
set_option maxHeartbeats 4000000
set_option synthInstance.maxHeartbeats 400000
set_option synthInstance.maxSize 2000
attribute [local irreducible] CW OW RW thenK blockK
attribute [local irreducible] scopeK loopK TRW ATW
theorem dkThread (x : Int) (L : Chunk) : Fn1 Tryz.prog 79 [.int .i64 x] L (fun u L' => u = .bool (decide (0 ≤ x ∧ x < 4)) ∧ L = L') := by
 intro w0; refine Spec.enter1 Tryz.func79 rfl Tryz.ntmps79 (by decide) ?_
 repeat' (first|refine Ga0 fun _=>?_|refine Ga1 ?_|refine Ga2 (fun _=>?_) fun _=>?_|refine Ga3 ?_|fail)
 ·exact bodyK.retD L (Res.one Tryz.results79) ⟨by rw [decide_eq_true (by omega)], rfl⟩
 ·exact bodyK.retD L (Res.one Tryz.results79) ⟨by rw [decide_eq_false (by omega)], rfl⟩
 ·exact bodyK.retD L (Res.one Tryz.results79) ⟨by rw [decide_eq_false (by omega)], rfl⟩
theorem dkSlot (x : Int) (L : Chunk) : Fn1 Tryz.prog 137 [.int .i64 x] L (fun u L' => u = .bool (decide (0 ≤ x ∧ x < 4)) ∧ L = L') := by
 intro w0; refine Spec.enter1 Tryz.func137 rfl Tryz.ntmps137 (by decide) ?_
 repeat' (first|refine Ga0 fun _=>?_|refine Ga1 ?_|refine Ga2 (fun _=>?_) fun _=>?_|refine Ga3 ?_|fail)
 ·exact bodyK.retD L (Res.one Tryz.results137) ⟨by rw [decide_eq_true (by omega)], rfl⟩
 ·exact bodyK.retD L (Res.one Tryz.results137) ⟨by rw [decide_eq_false (by omega)], rfl⟩
 ·exact bodyK.retD L (Res.one Tryz.results137) ⟨by rw [decide_eq_false (by omega)], rfl⟩
theorem num30 (x : Int) (L : Chunk) : Fn1 Tryz.prog 37 [.int .i64 x] L (fun u L' => u = .int .i64 x ∧ L = L') := by
 intro w0; refine Spec.enter1 Tryz.func37 rfl Tryz.ntmps37 (by decide) ?_
 repeat' (first|refine Ga0 fun _=>?_|refine Ga1 ?_|refine Ga2 (fun _=>?_) fun _=>?_|refine Ga3 ?_|fail)
 exact bodyK.retD L (Res.one Tryz.results37) ⟨rfl, rfl⟩
def useT (f t : Int) : Td := ⟨0, ⟨5, 1048848, 0, 0, 0, []⟩, ⟨0, 0, 16, []⟩, f, t⟩
def getT : Td := ⟨1, ⟨1, 0, 10, 1, 0, []⟩, ⟨0, 1048848, 0, []⟩, 1, 2⟩
theorem works_1 : findE 0 100 [useT 0 5, getT] = 0 ∧ srch [useT 0 5, getT] 3 ⟨0, 100, []⟩ [] = some [1, 0] := by decide +kernel
theorem works_2 : findE 0 100 [useT 3 5, getT] = 0 ∧ srch [useT 3 5, getT] 3 ⟨0, 100, []⟩ [] = some [1, 0] := by decide +kernel
theorem works_3 : findE 0 100 [useT 0 0, getT] = 0 ∧ srch [useT 0 0, getT] 3 ⟨0, 100, []⟩ [] = none := by decide +kernel
theorem ints30 (v w : Value) (zs : List Int) (L : Chunk) (hv : Rd L 1 v zs.length (zs.map (Value.int .i64))) (hw : Rd L 1 w zs.length (zs.map (Value.int .i64))) (hz : zs.length ≤ 1000) : Fn1 Tryz.prog 72 [v, w] L (fun u L' => u = .bool true ∧ L = L') := by
 obtain ⟨av, cv, rfl, _⟩ := hv.isSlice
 obtain ⟨aw, cw, rfl, _⟩ := hw.isSlice
 intro w0; refine Spec.enter2 Tryz.func72 rfl Tryz.ntmps72 (by decide) ?_
 have z6:DrP 6 [0,1,2,3,4,5,6,7,8]:=⟨⟨⟩⟩
 repeat' (first|refine Gi0 fun _=>?_|refine Gi1 ?_|refine Gi2 (fun _=>?_) fun _=>?_|refine Gi3 ?_|fail)
 refine CW.count zs.length (fun i ρ ds L' => ds = [] ∧ L' = L ∧ Ev ρ 0 (.slice av zs.length cv) ∧ Ev ρ 1 (.slice aw zs.length cw) ∧ Ev ρ 5 (.int .i64 (i : Int))) ⟨rfl, rfl, ii, ii, ii⟩ ?_
 rintro i ρ ds L' hi ⟨rfl, rfl, e0, e1, e5⟩
 by_cases hlt : i < zs.length
 ·obtain ⟨bk, kk, capk, lk, ek, frk, hbe, hbin, hbc, hbn⟩ := hv.open1 (by omega)
  cases hbe
  obtain ⟨bj, kj, capj, lj, ej, frj, hbe, hbinj, hbcj, hbnj⟩ := hw.open1 (by omega)
  cases hbe
  have n1 := hbn i (.int .i64 zs[i]) hlt (by simp [List.getElem?_eq_getElem hlt])
  have n2 := hbnj i (.int .i64 zs[i]) hlt (by simp [List.getElem?_eq_getElem hlt])
  have hlti : (i : Int) < zs.length := by omega
  clear hbn hbnj
  generalize zs[i] = z at *
  repeat' (first|refine Gi0 fun _=>?_|refine Gi1 ?_|refine Gi2 (fun _=>?_) fun _=>?_|refine Gi3 ?_|fail)
  exact ⟨hlt, rfl, rfl, ii, ii, by rw [Int.natCast_add]; infer_instance⟩
 ·obtain rfl : i = zs.length := by omega
  repeat' (first|refine Gi0 fun _=>?_|refine Gi1 ?_|refine Gi2 (fun _=>?_) fun _=>?_|refine Gi3 ?_|fail)
  exact bodyK.retD L' (Res.one Tryz.results72) ⟨rfl, rfl⟩
theorem td_useR (f t : Int) (h : inR .i64 f) (h' : inR .i64 t) : TdR (useT f t) := ⟨show inR .i64 0 by decide, ⟨show inR .i64 5 by decide, show inR .u32 1048848 by decide, show inR .u64 0 by decide, show inR .u64 0 by decide, show inR .u64 0 by decide⟩, ⟨show inR .i64 0 by decide, show inR .u32 0 by decide, show inR .i64 16 by decide⟩, h, h'⟩
theorem td_getR : TdR getT := ⟨by decide, ⟨by decide, by decide, by decide, by decide, by decide⟩, ⟨by decide, by decide, by decide⟩, by decide, by decide⟩
theorem two_ls {b : Nat} {L : Chunk} (f t : Int) (h : inR .i64 f) (h' : inR .i64 t) [hin : InC L b (.cells (tdC (useT f t) (.slice none 0 0) (.slice none 0 0) ++ tdC getT (.slice none 0 0) (.slice none 0 0)).toArray 103 (0, 0))] : LS 13 TdAt L (.slice (some ⟨b, 0, none⟩) 2 2) [useT f t, getT] :=
 ⟨⟨_, Rd.blk (n := 2) rfl (Nat.le_refl _), ⟨_, _, rfl, rfl, ⟨_, _, rfl, BS.nil L, BS.nil L, td_useR f t h h'⟩, ⟨_, [], by rw [List.append_nil], rfl, ⟨_, _, rfl, BS.nil L, BS.nil L, td_getR⟩, rfl⟩⟩⟩, show ((2 : Nat) : Int) ≤ 9223372036854775807 by decide⟩
theorem works30 (L : Chunk) : Fn1 Tryz.prog 30 [] L (fun u L' => u = .bool true ∧ L = L') := by
 intro w0; refine Spec.enter0 Tryz.func30 rfl Tryz.ntmps30 ?_
 repeat' (first|refine Ga0 fun _=>?_|refine Ga1 ?_|refine Ga2 (fun _=>?_) fun _=>?_|refine Ga3 ?_|refine Ga4 fun _=>?_|fail)
 refine OW.call (oFindAll 0 100 _ [useT 0 5, getT] _ (two_ls 0 5 (by decide) (by decide))) ?_
 rintro _ _ (⟨h, _⟩ | ⟨_, _, N1, rfl, h1⟩)
 ·exact absurd works_1.1 h
 rw [show srch [useT 0 5, getT] ([useT 0 5, getT].length + 1) ⟨0, 100, []⟩ [] = some [1, 0] from works_1.2] at h1
 obtain ⟨w1, rfl, h1⟩ := h1
 have s1 := h1.sng
 repeat' (first|refine Ga0 fun _=>?_|refine Ga1 ?_|refine Ga2 (fun _=>?_) fun _=>?_|refine Ga3 ?_|refine Ga4 fun _=>?_|fail)
 refine OW.call (oFindAll 0 100 _ [useT 3 5, getT] _ (two_ls 3 5 (by decide) (by decide))) ?_
 rintro _ _ (⟨h, _⟩ | ⟨_, _, N2, rfl, h2⟩)
 ·exact absurd works_2.1 h
 rw [show srch [useT 3 5, getT] ([useT 3 5, getT].length + 1) ⟨0, 100, []⟩ [] = some [1, 0] from works_2.2] at h2
 obtain ⟨w2, rfl, h2⟩ := h2
 have s2 := h2.sng
 repeat' (first|refine Ga0 fun _=>?_|refine Ga1 ?_|refine Ga2 (fun _=>?_) fun _=>?_|refine Ga3 ?_|refine Ga4 fun _=>?_|fail)
 refine OW.call (oFindAll 0 100 _ [useT 0 0, getT] _ (two_ls 0 0 (by decide) (by decide))) ?_
 rintro _ _ (⟨h, _⟩ | ⟨_, _, N3, rfl, h3⟩)
 ·exact absurd works_3.1 h
 rw [show srch [useT 0 0, getT] ([useT 0 0, getT].length + 1) ⟨0, 100, []⟩ [] = none from works_3.2] at h3
 subst h3
 repeat' (first|refine Ga0 fun _=>?_|refine Ga1 ?_|refine Ga2 (fun _=>?_) fun _=>?_|refine Ga3 ?_|refine Ga4 fun _=>?_|fail)
 refine OW.call (num30 _ _) ?_
 rintro _ _ ⟨rfl, rfl⟩
 repeat' (first|refine Ga0 fun _=>?_|refine Ga1 ?_|refine Ga2 (fun _=>?_) fun _=>?_|refine Ga3 ?_|refine Ga4 fun _=>?_|fail)
 refine OW.call (num30 _ _) ?_
 rintro _ _ ⟨rfl, rfl⟩
 repeat' (first|refine Ga0 fun _=>?_|refine Ga1 ?_|refine Ga2 (fun _=>?_) fun _=>?_|refine Ga3 ?_|refine Ga4 fun _=>?_|fail)
 refine OW.call (num30 _ _) ?_
 rintro _ _ ⟨rfl, rfl⟩
 repeat' (first|refine Ga0 fun _=>?_|refine Ga1 ?_|refine Ga2 (fun _=>?_) fun _=>?_|refine Ga3 ?_|refine Ga4 fun _=>?_|fail)
 refine OW.call (ints30 w1 _ [1, 0] _ h1.to (Rd.blk (n := 2) rfl (Nat.le_refl _)) (by decide)) ?_
 rintro _ _ ⟨rfl, rfl⟩
 repeat' (first|refine Ga0 fun _=>?_|refine Ga1 ?_|refine Ga2 (fun _=>?_) fun _=>?_|refine Ga3 ?_|refine Ga4 fun _=>?_|fail)
 refine OW.call (ints30 w2 _ [1, 0] _ h2.to (Rd.blk (n := 2) rfl (Nat.le_refl _)) (by decide)) ?_
 rintro _ _ ⟨rfl, rfl⟩
 repeat' (first|refine Ga0 fun _=>?_|refine Ga1 ?_|refine Ga2 (fun _=>?_) fun _=>?_|refine Ga3 ?_|refine Ga4 fun _=>?_|fail)
 exact bodyK.retD L (Res.one Tryz.results30) ⟨rfl, rfl⟩
end Go.Proofs.YtmnhooepaemlcaaGreat
