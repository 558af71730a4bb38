/-
  For every input the law OrderLeast returns true, and each argument reads behind the call as it read before. This text holds lemmas for it (part 17).
  Conditions: none.
-/
import Derived.Test.YtmnhooepaemlcaaGreatOL2
import Derived.Test.YtmnhooepaemlcaaGreatOL3
import Derived.Test.YtmnhooepaemlcaaGreatOL7
import Derived.Test.YtmnhooepaemlcaaGreatOL16
set_option linter.all false
namespace Go.Proofs.YtmnhooepaemlcaaGreat
open Go Go.Pw Go.Pw.Sc Go.Pw.Md Go.Pw.Or
set_option maxRecDepth 100000
set_option maxHeartbeats 4000000
set_option synthInstance.maxHeartbeats 400000
set_option synthInstance.maxSize 2000
attribute [local irreducible] CW OW RW thenK blockK
attribute [local irreducible] scopeK loopK TRW ATW
def okS (slot quota : Int) : Prop := 0 ≤ slot ∧ slot < 4 ∧ 0 ≤ quota ∧ quota ≤ 1073741824
instance (slot quota : Int) : Decidable (okS slot quota) := by unfold okS; infer_instance
def findE (slot quota : Int) (l : List Td) : Int := if okS slot quota then checkE l else 2
theorem checkE_cases (l : List Td) : checkE l = 0 ∨ checkE l = 2 ∨ checkE l = 3 := by
 unfold checkE
 split
 ·exact .inr (.inl rfl)
 ·split
  ·exact .inr (.inr rfl)
  ·exact .inl rfl
theorem oBegun (slot quota : Int) (v : Value) (l : List Td) (L : Chunk) (hl : LS 13 TdAt L v l) :
  Fn1 Tryz.prog 82 [.int .i64 slot, .int .i64 quota, v] L (fun u L' =>
   (findE slot quota l = 0 ∧ okS slot quota ∧ ∃ bs bc bn bp, u = .tuple #[ptr bs, ptr bn, .int .i64 0] ∧ L' = (bs, sCell v bc (.slice none 0 0)) :: (bc, .map #[] 0) :: (bn, .cells (mcells ⟨slot, quota, []⟩ bp).toArray 142 (0, 0)) :: (bp, .map #[] 0) :: L) ∨
   (findE slot quota l ≠ 0 ∧ u = .tuple #[.pointer none, .pointer none, .int .i64 (findE slot quota l)] ∧ L' = L)) := by
 have sv := hl.sng
 unfold findE
 intro w0; refine Spec.enter3 Tryz.func82 rfl Tryz.ntmps82 (by decide) ?_
 repeat' (first|refine Ge0 fun _=>?_|refine Ge1 ?_|refine Ge2 (fun _=>?_) fun _=>?_|refine Ge3 ?_|refine Ge4 fun _=>?_|fail)
 refine OW.call (modelNew slot quota _) ?_
 intro u L1 hu
 by_cases hok : okS slot quota
 ·rw [if_pos (show 0 ≤ slot ∧ slot < 4 ∧ 0 ≤ quota ∧ quota ≤ 1073741824 from hok)] at hu
  obtain ⟨bn, bp, rfl, rfl⟩ := hu
  rw [if_pos hok]
  repeat' (first|refine Ge0 fun _=>?_|refine Ge1 ?_|refine Ge2 (fun _=>?_) fun _=>?_|refine Ge3 ?_|refine Ge4 fun _=>?_|fail)
  refine OW.call (oCheck v l _ (LS.to hl (fun c a h => TdAt.to c a h))) ?_
  rintro _ _ ⟨rfl, rfl⟩
  rcases checkE_cases l with h | h | h
  ·rw [h]
   repeat' (first|refine Ge0 fun _=>?_|refine Ge1 ?_|refine Ge2 (fun _=>?_) fun _=>?_|refine Ge3 ?_|refine Ge4 fun _=>?_|fail)
   exact bodyK.ret (Res.three Tryz.results82) (.inl ⟨rfl, hok, _, _, _, _, rfl, rfl⟩)
  ·rw [h]
   repeat' (first|refine Ge0 fun _=>?_|refine Ge1 ?_|refine Ge2 (fun _=>?_) fun _=>?_|refine Ge3 ?_|refine Ge4 fun _=>?_|fail)
   exact bodyK.retD L (Res.three Tryz.results82) (.inr ⟨by decide, rfl, rfl⟩)
  ·rw [h]
   repeat' (first|refine Ge0 fun _=>?_|refine Ge1 ?_|refine Ge2 (fun _=>?_) fun _=>?_|refine Ge3 ?_|refine Ge4 fun _=>?_|fail)
   exact bodyK.retD L (Res.three Tryz.results82) (.inr ⟨by decide, rfl, rfl⟩)
 ·rw [if_neg (show ¬ (0 ≤ slot ∧ slot < 4 ∧ 0 ≤ quota ∧ quota ≤ 1073741824) from hok)] at hu
  obtain ⟨rfl, rfl⟩ := hu
  rw [if_neg hok]
  repeat' (first|refine Ge0 fun _=>?_|refine Ge1 ?_|refine Ge2 (fun _=>?_) fun _=>?_|refine Ge3 ?_|refine Ge4 fun _=>?_|fail)
  exact bodyK.retD L (Res.three Tryz.results82) (.inr ⟨by decide, rfl, rfl⟩)
theorem mrest_new {L : Chunk} {bp : Nat} {slot quota : Int} [h : InC L bp (.map #[] 0)] : MRest L bp ⟨slot, quota, []⟩ := ⟨[], 0, [], ⟨h.out⟩, KV.nil _, by first | exact Zs.nil | exact ⟨rfl, fun _ h => by cases h⟩ | trivial, List.Perm.refl _⟩
theorem wf_new {slot quota : Int} (h : okS slot quota) : WF ⟨slot, quota, []⟩ := start_wf h
theorem len10 {l : List Td} (h : checkE l = 0) : l.length ≤ 10 := by
 unfold checkE at h
 split at h
 ·cases h
 ·split at h
  ·cases h
  ·omega
theorem oFindAll (slot quota : Int) (v : Value) (l : List Td) (L : Chunk) (hl : LS 13 TdAt L v l) :
  Fn1 Tryz.prog 39 [.int .i64 slot, .int .i64 quota, v] L (fun u L' =>
   (findE slot quota l ≠ 0 ∧ u = .tuple #[.slice none 0 0, .bool false, .int .i64 (findE slot quota l)] ∧ L' = L) ∨
   (findE slot quota l = 0 ∧ okS slot quota ∧ ∃ N, L' = N ++ L ∧ (match srch l (l.length + 1) ⟨slot, quota, []⟩ [] with
    | none => u = .tuple #[.slice none 0 0, .bool false, .int .i64 0]
    | some r => ∃ w, u = .tuple #[w, .bool true, .int .i64 0] ∧ Rd N 1 w r.length (inN r)))) := by
 have sv := hl.sng
 intro w0; refine Spec.enter3 Tryz.func39 rfl Tryz.ntmps39 (by decide) ?_
 repeat' (first|refine Ga0 fun _=>?_|refine Ga1 ?_|refine Ga2 (fun _=>?_) fun _=>?_|refine Ga3 ?_|refine Ga4 fun _=>?_|fail)
 rename_i b5
 refine OW.call (oBegun slot quota v l _ (LS.to hl (fun c a h => TdAt.to c a h))) ?_
 rintro _ _ (⟨hf, hok, bs, bc, bn, bp, rfl, rfl⟩ | ⟨hf, rfl, rfl⟩)
 ·have hch : checkE l = 0 := by unfold findE at hf; rwa [if_pos hok] at hf
  have h10 := len10 hch
  repeat' (first|refine Ga0 fun _=>?_|refine Ga1 ?_|refine Ga2 (fun _=>?_) fun _=>?_|refine Ga3 ?_|refine Ga4 fun _=>?_|fail)
  rename_i b9 bg b12 b13 b14 b15
  generalize hG : (b15, Obj.cells #[findV b9 b5 b14 b13 b12 b15] 190 (0, 0)) :: (b13, Obj.cells #[.func (.func 83) #[] #[ptr b9]] 161 (0, 0)) :: (b12, Obj.cells #[.map (some bg)] 185 (0, 0)) :: (b9, Obj.cells #[ptr bs] 182 (0, 0)) :: (bn, Obj.cells (mcells ⟨slot, quota, []⟩ bp).toArray 142 (0, 0)) :: (bp, Obj.map #[] 0) :: (b5, Obj.cells #[v] 84 (0, 0)) :: L = G
  refine OW.perm (L' := (bs, sCell v bc (.slice none 0 0)) :: (bc, .map #[] 0) :: (b14, Obj.cells #[.slice none 0 0] 35 (0, 0)) :: (bg, .map #[] 0) :: G) (by rw [← hG]; exact PermC.out) ?_
  have hE : FEnv l v b9 b5 b14 b13 b12 b15 bs bg G := by subst hG; exact ⟨inferInstance, inferInstance, inferInstance, inferInstance, inferInstance, LS.to hl (fun c a h => TdAt.to c a h)⟩
  have i15 := hE.f
  have ibn : InC G bn (Obj.cells (mcells ⟨slot, quota, []⟩ bp).toArray 142 (0, 0)) := by subst hG; infer_instance
  have hmr : MRest G bp ⟨slot, quota, []⟩ := by subst hG; exact mrest_new
  refine OW.callV1 (FnP.vp (first := #[]) (cap := #[ptr b9, ptr b5, ptr b14, ptr b13, ptr b12, ptr b15]) (oFind2 l v b9 b5 b14 b13 b12 b15 bs bc bg h10 (l.length + 1) [] ⟨slot, quota, []⟩ bn bp (.slice none 0 0) [] 0 [] (.slice none 0 0) [] 0 [] [] G hE CM.nil (RowG.nil _ _) (by simp) (fun _ h => (by cases h)) (GoneOk.nil l G) ibn hmr (wf_new hok) (Nat.zero_le _) (by simp) (by have := Tb_10 h10 (f := l.length + 1) (by omega); simp [tot]; omega) inferInstance)) ?_
  rintro u _ ⟨es', c', ov', N', fv', gs', gc', zs', G2, _, hrow', _, _, rfl, hm⟩
  obtain ⟨Y, hY⟩ : ∃ Y, G = Y ++ L := ⟨[_, _, _, _, _, _, _], by rw [← hG]; rfl⟩
  cases hs : srch l (l.length + 1) ⟨slot, quota, []⟩ [] with
  | none =>
   rw [hs] at hm
   obtain ⟨rfl, rfl⟩ := hm
   repeat' (first|refine Ga0 fun _=>?_|refine Ga1 ?_|refine Ga2 (fun _=>?_) fun _=>?_|refine Ga3 ?_|refine Ga4 fun _=>?_|fail)
   refine bodyK.retD (G2 ++ G) (Res.three Tryz.results39) (.inr ⟨hf, hok, G2 ++ Y, by rw [hY, List.append_assoc], ?_⟩)
   rfl
  | some r =>
   rw [hs] at hm
   obtain ⟨rfl, hr⟩ := hm
   have sfv := hr.sng
   repeat' (first|refine Ga0 fun _=>?_|refine Ga1 ?_|refine Ga2 (fun _=>?_) fun _=>?_|refine Ga3 ?_|refine Ga4 fun _=>?_|fail)
   refine bodyK.retD (G2 ++ G) (Res.three Tryz.results39) (.inr ⟨hf, hok, G2 ++ Y, by rw [hY, List.append_assoc], ?_⟩)
   exact ⟨_, rfl, hr.mono fun q hq => List.mem_append_left _ hq⟩
 ·have hfe : findE slot quota l = 2 ∨ findE slot quota l = 3 := by
   unfold findE at hf ⊢
   split
   ·rename_i hk
    rw [if_pos hk] at hf
    rcases checkE_cases l with h | h | h
    ·exact absurd h hf
    ·exact .inl h
    ·exact .inr h
   ·exact .inl rfl
  rcases hfe with h | h
  ·rw [h]
   repeat' (first|refine Ga0 fun _=>?_|refine Ga1 ?_|refine Ga2 (fun _=>?_) fun _=>?_|refine Ga3 ?_|refine Ga4 fun _=>?_|fail)
   exact bodyK.retD L (Res.three Tryz.results39) (.inl ⟨by decide, rfl, rfl⟩)
  ·rw [h]
   repeat' (first|refine Ga0 fun _=>?_|refine Ga1 ?_|refine Ga2 (fun _=>?_) fun _=>?_|refine Ga3 ?_|refine Ga4 fun _=>?_|fail)
   exact bodyK.retD L (Res.three Tryz.results39) (.inl ⟨by decide, rfl, rfl⟩)
end Go.Proofs.YtmnhooepaemlcaaGreat

namespace Go.Proofs.YtmnhooepaemlcaaGreat
open Go Go.Pw Go.Pw.Sc Go.Pw.Md Go.Pw.Or
set_option maxRecDepth 100000
set_option maxHeartbeats 4000000
set_option synthInstance.maxHeartbeats 400000
set_option synthInstance.maxSize 2000
attribute [local irreducible] CW OW RW thenK blockK
attribute [local irreducible] scopeK loopK TRW ATW
theorem valuesI (v : Value) (L : Chunk) [sv : Sng v] : Fn1 Tryz.prog 92 [v] L (fun u L' => ∃ bx, u = .func (.func 136) #[] #[.pointer (some ⟨bx, 0, none⟩)] ∧ L' = (bx, .cells #[v] 35 (0, 0)) :: L) := by
 intro w0; refine Spec.enter1 Tryz.func92 rfl Tryz.ntmps92 (by decide) ?_
 repeat' (first|refine Ga0 fun _=>?_|refine Ga1 ?_|refine Ga2 (fun _=>?_) fun _=>?_|refine Ga3 ?_|refine Ga4 fun _=>?_|fail)
 exact bodyK.ret (Res.one Tryz.results92) ⟨_, rfl, rfl⟩
theorem oCount0 (v fv : Value) (zs : List Int) (sf : Sng fv) (L : Chunk) (hv : Rd L 1 v zs.length (zs.map (Value.int .i64))) (hl : zs.length ≤ 4611686018427387903)
  (hf : ∀ i (h : i < zs.length), VP Tryz.prog fv [.int .i64 zs[i]] L (fun u L' => u = .bool false ∧ L = L') noPanic) :
  Fn1 Tryz.prog 93 [v, fv] L (fun u L' => u = .int .i64 0 ∧ L = L') := by
 obtain ⟨av, cv, rfl, _⟩ := hv.isSlice
 intro w0; refine Spec.enter2 Tryz.func93 rfl Tryz.ntmps93 (by decide) ?_
 repeat' (first|refine Ga0 fun _=>?_|refine Ga1 ?_|refine Ga2 (fun _=>?_) fun _=>?_|refine Ga3 ?_|refine Ga4 fun _=>?_|fail)
 refine CW.count zs.length (fun i ρ ds L' => ds = [] ∧ L' = L ∧ Ev ρ 1 fv ∧ Ev ρ 4 (.int .i64 0) ∧ Ev ρ 7 (.slice av zs.length cv) ∧ Ev ρ 8 (.int .i64 (zs.length : Int)) ∧ Ev ρ 9 (.int .i64 (i : Int))) ⟨rfl, rfl, inferInstance, inferInstance, inferInstance, inferInstance, inferInstance⟩ ?_
 rintro i ρ ds L' hi ⟨rfl, rfl, e1, e4, e7, e8, e9⟩
 by_cases hlt : i < zs.length
 ·obtain ⟨bk, kk, capk, lk, ek, frk, hbe, hbin, hbc, hbn⟩ := hv.open1 (by omega)
  cases hbe
  have hnth := hbn i (.int .i64 zs[i]) hlt (by simp [List.getElem?_eq_getElem hlt])
  have hvp := hf i hlt
  have hlti : (i : Int) < zs.length := by omega
  clear hbn
  generalize zs[i] = z at *
  repeat' (first|refine Ga0 fun _=>?_|refine Ga1 ?_|refine Ga2 (fun _=>?_) fun _=>?_|refine Ga3 ?_|refine Ga4 fun _=>?_|fail)
  refine OW.callV1 hvp ?_
  rintro _ _ ⟨rfl, rfl⟩
  repeat' (first|refine Ga0 fun _=>?_|refine Ga1 ?_|refine Ga2 (fun _=>?_) fun _=>?_|refine Ga3 ?_|refine Ga4 fun _=>?_|fail)
  exact ⟨hlt, rfl, rfl, inferInstance, inferInstance, inferInstance, inferInstance, by rw [Int.natCast_add]; infer_instance⟩
 ·obtain rfl : i = zs.length := by omega
  repeat' (first|refine Ga0 fun _=>?_|refine Ga1 ?_|refine Ga2 (fun _=>?_) fun _=>?_|refine Ga3 ?_|refine Ga4 fun _=>?_|fail)
  exact bodyK.ret (Res.one Tryz.results93) ⟨rfl, rfl⟩
theorem oRight1 (i n : Nat) (b7 b13 : Nat) (lv sv : Value) (l : List Td) (L : Chunk) [h1 : InC L b7 (.cells #[lv] 84 (0, 0))] [h2 : InC L b13 (.cells #[sv] 35 (0, 0))] (hl : LS 13 TdAt L lv l) (hn : l.length = n) (hi : i < n) (hs : Rd L 1 sv n (((List.range n).map fun (k : Nat) => (k : Int)).map (Value.int .i64))) :
  Fn1 Tryz.prog 94 [.int .i64 (i : Int), .pointer (some ⟨b7, 0, none⟩), .pointer (some ⟨b13, 0, none⟩)] L (fun u L' => u = .bool false ∧ L = L') := by
 obtain ⟨av, cv, rfl⟩ := hl.slice
 have hll := hl.len
 obtain ⟨bk, kk, capk, lk, ek, frk, rfl, hbin, hbc, hbn⟩ := hs.open1 (by omega)
 have hnth := hbn i (.int .i64 (i : Int)) hi (by simp [List.getElem?_range hi])
 clear hbn
 subst hn
 have hii : (i : Int) < (l.length : Int) := by omega
 intro w0; refine Spec.enter3 Tryz.func94 rfl Tryz.ntmps94 (by decide) ?_
 repeat' (first|refine Ga0 fun _=>?_|refine Ga1 ?_|refine Ga2 (fun _=>?_) fun _=>?_|refine Ga3 ?_|refine Ga4 fun _=>?_|fail)
 exact bodyK.ret (Res.one Tryz.results94) ⟨rfl, rfl⟩
theorem oRight (slot quota : Int) (ov lv : Value) (o : List Nat) (l : List Td) (L : Chunk) (hl : LS 13 TdAt L lv l) (hv : Rd L 1 ov o.length (inN o)) (hfe : findE slot quota l = 0) (hp : o.Perm (List.range l.length)) :
  Fn1 Tryz.prog 40 [.int .i64 slot, .int .i64 quota, ov, lv] L (fun u L' => u = .tuple #[.bool (rightP l ⟨slot, quota, []⟩ [] o), .int .i64 0] ∧ L = L') := by
 have sl := hl.sng
 have sov := hv.sng
 obtain ⟨av, cv, rfl⟩ := hl.slice
 obtain ⟨aw, cw, rfl, _⟩ := hv.isSlice
 have hno : o.length = l.length := by simpa using hp.length_eq
 intro w0; refine Spec.enter4 Tryz.func40 rfl Tryz.ntmps40 (by decide) ?_
 repeat' (first|refine Gi0 fun _=>?_|refine Gi1 ?_|refine CW.drawsP (id := 12) [0,1,2,3,4,5,6,7,8,9,10,11,12,13,14,15,16] mixed (by kernel_rfl) ?_|refine Gi2 (fun _=>?_) fun _=>?_|refine Gi3 ?_|refine Gi4 fun _=>?_|fail)
 rename_i b7
 refine OW.call (oBegun slot quota _ l _ (LS.to hl (fun c a h => TdAt.to c a h))) ?_
 rintro _ _ (⟨_, hok, bs, bc, bn, bp, rfl, rfl⟩ | ⟨hf, rfl, rfl⟩)
 ·have hch : checkE l = 0 := by unfold findE at hfe; rwa [if_pos hok] at hfe
  have h10 := len10 hch
  repeat' (first|refine Gi0 fun _=>?_|refine Gi1 ?_|refine CW.drawsP (id := 12) [0,1,2,3,4,5,6,7,8,9,10,11,12,13,14,15,16] mixed (by kernel_rfl) ?_|refine Gi2 (fun _=>?_) fun _=>?_|refine Gi3 ?_|refine Gi4 fun _=>?_|fail)
  refine OW.call (valuesI _ _) ?_
  rintro _ _ ⟨bx, rfl, rfl⟩
  repeat' (first|refine Gi0 fun _=>?_|refine Gi1 ?_|refine CW.drawsP (id := 12) [0,1,2,3,4,5,6,7,8,9,10,11,12,13,14,15,16] mixed (by kernel_rfl) ?_|refine Gi2 (fun _=>?_) fun _=>?_|refine Gi3 ?_|refine Gi4 fun _=>?_|fail)
  refine OW.call (sortedS _ [.pointer (some ⟨bx, 0, none⟩)] (o.map fun (k : Nat) => (k : Int)) _ (valI bx (.slice aw o.length cw) (o.map fun (k : Nat) => (k : Int)) _ (by
   rw [List.length_map, List.map_map]
   exact hv.to) (by rw [List.length_map]; omega)) (by rw [List.length_map]; omega)) ?_
  rintro u _ ⟨N, rfl, hrow⟩
  have su := hrow.sng
  rw [sorted_range hp, List.length_map] at hrow
  repeat' (first|refine Gi0 fun _=>?_|refine Gi1 ?_|refine CW.drawsP (id := 12) [0,1,2,3,4,5,6,7,8,9,10,11,12,13,14,15,16] mixed (by kernel_rfl) ?_|refine Gi2 (fun _=>?_) fun _=>?_|refine Gi3 ?_|refine Gi4 fun _=>?_|fail)
  rename_i b13
  have hlo : (l.length : Int) = (o.length : Int) := by omega
  refine OW.call (oCount0 u _ ((List.range l.length).map fun (k : Nat) => (k : Int)) inferInstance _ (by
   rw [List.length_map, List.length_range, ← hno]
   have h := hrow.rd
   rw [← hno] at h
   exact h.to) (by simp; omega) (fun i hi => ?_)) ?_
  ·have hi' : i < l.length := by simpa using hi
   simp only [List.getElem_map, List.getElem_range]
   refine FnP.vp (first := #[]) (cap := #[.pointer (some ⟨b7, 0, none⟩), .pointer (some ⟨b13, 0, none⟩)]) (oRight1 i l.length b7 b13 _ u l _ (LS.to hl (fun c a h => TdAt.to c a h)) rfl hi' ?_)
   have h := hrow.rd
   rw [hno] at h
   exact h.to
  rintro _ _ ⟨rfl, rfl⟩
  repeat' (first|refine Gi0 fun _=>?_|refine Gi1 ?_|refine CW.drawsP (id := 12) [0,1,2,3,4,5,6,7,8,9,10,11,12,13,14,15,16] mixed (by kernel_rfl) ?_|refine Gi2 (fun _=>?_) fun _=>?_|refine Gi3 ?_|refine Gi4 fun _=>?_|fail)
  have hnd : o.Nodup := hp.symm.nodup List.nodup_range
  have hlt : ∀ i ∈ o, i < l.length := fun i hi => List.mem_range.1 (hp.subset hi)
  refine CW.perm (L' := (bs, sCell (.slice av l.length cv) bc (.slice none 0 0)) :: (bc, .map #[] 0) :: (bn, .cells (mcells ⟨slot, quota, []⟩ bp).toArray 142 (0, 0)) :: ((b13, .cells #[u] 35 (0, 0)) :: (N ++ ((bx, .cells #[.slice aw o.length cw] 35 (0, 0)) :: (bp, .map #[] 0) :: (b7, .cells #[.slice av l.length cv] 84 (0, 0)) :: L)))) (by exact PermC.out) ?_
  generalize hG : ((b13, Obj.cells #[u] 35 (0, 0)) :: (N ++ ((bx, Obj.cells #[.slice aw o.length cw] 35 (0, 0)) :: (bp, Obj.map #[] 0) :: (b7, Obj.cells #[.slice av l.length cv] 84 (0, 0)) :: L))) = G
  have mL : MemC L G := ⟨fun q hq => by rw [← hG]; simp [hq]⟩
  have sL : SubC L G := by subst hG; infer_instance
  have i7 : InC G b7 (Obj.cells #[.slice av l.length cv] 84 (0, 0)) := by subst hG; infer_instance
  have ip : InC G bp (.map #[] 0) := by subst hG; infer_instance
  have hvG : Rd G 1 (.slice aw o.length cw) o.length (inN o) := hv.to
  have hlG : LS 13 TdAt G (.slice av l.length cv) l := LS.to hl (fun c a h => TdAt.to c a h)
  clear hG
  refine CW.count o.length (fun i ρ ds L' => ds = [] ∧ (∃ (X : Chunk) (es : List MapEntry) (c : Nat) (m : Mod) (b : Nat), CM es c (o.take i) ∧ MRest (X ++ G) b m ∧ WF m ∧ L' = X ++ ((bs, sCell (.slice av l.length cv) bc (.slice none 0 0)) :: (bc, .map (List.toArray es) c) :: (bn, .cells (mcells m b).toArray 142 (0, 0)) :: G) ∧
     rightP l m (o.take i) (o.drop i) = rightP l ⟨slot, quota, []⟩ [] o) ∧ Ev ρ 7 (ptr b7) ∧ Ev ρ 10 (ptr bs) ∧ Ev ρ 11 (ptr bn) ∧ Ev ρ 43 (.slice aw o.length cw) ∧ Ev ρ 44 (.int .i64 (o.length : Int)) ∧ Ev ρ 45 (.int .i64 (i : Int)))
   ⟨rfl, ⟨[], [], 0, ⟨slot, quota, []⟩, bp, CM.nil, mrest_new, wf_new hok, rfl, rfl⟩, inferInstance, inferInstance, inferInstance, inferInstance, inferInstance, inferInstance⟩ ?_
  rintro i ρ ds L' hi ⟨rfl, ⟨X, es, c, m, b, hc, hmr, hwf, rfl, hfin⟩, e7, e10, e11, e43, e44, e45⟩
  by_cases hlt' : i < o.length
  ·obtain ⟨bv, kv, capv, lv, ev_, frv, hbe, hbinv, hbcv, hbnv⟩ := hvG.open1 (by omega)
   cases hbe
   have hnth := hbnv i (.int .i64 (o[i] : Int)) hlt' (by simp [List.getElem?_eq_getElem hlt'])
   have hat := hlt o[i] (List.getElem_mem hlt')
   have hdr : o.drop i = o[i] :: o.drop (i + 1) := List.drop_eq_getElem_cons hlt'
   have hts : o.take (i + 1) = o.take i ++ [o[i]] := by rw [List.take_add_one, List.getElem?_eq_getElem hlt']; rfl
   have hci : (o.take i).contains o[i] = false := by
    rw [List.contains_eq_mem, decide_eq_false_iff_not]
    intro hm
    have h4 : (o.take i ++ o[i] :: o.drop (i + 1)).Nodup := by rw [← hdr, List.take_append_drop]; exact hnd
    exact (List.nodup_append.1 h4).2.2 _ hm _ (List.mem_cons_self ..) rfl
   rw [hdr, rightP] at hfin
   clear hbnv hdr
   generalize o[i] = a at *
   obtain ⟨bk, kk, capk, lk, ek, frk, hbe, hbin, hbc, hbn⟩ := hlG.open (by omega)
   cases hbe
   obtain ⟨cc, hcut, vx, vb, rfl, hvx, hvb, htr⟩ := hbn a hat
   have q1 := hvx.sng
   have q2 := hvb.sng
   have hai : (a : Int) < l.length := by omega
   have hoi : (i : Int) < o.length := by omega
   have hmay : mayP l m a = (Md.next m l[a].op l[a].out).2 := by unfold mayP; rw [List.getElem?_eq_getElem hat]
   have hnext : nextP l m a = after m l[a].op l[a].out := by unfold nextP; rw [List.getElem?_eq_getElem hat]
   have hfree := fun D L h1 h2 h3 h4 h5 h6 => oFree bs bc (.slice (some ⟨bk, kk, none⟩) l.length cv) (.slice none 0 0) l es c (o.take i) a hat D L (hD := h1) (h1 := h2) (h2 := h3) h4 h5 h6 hc
   clear hbn
   generalize l[a] = x at *
   repeat' (first|refine Gi0 fun _=>?_|refine Gi1 ?_|refine CW.drawsP (id := 12) [0,1,2,3,4,5,6,7,8,9,10,11,12,13,14,15,16] mixed (by kernel_rfl) ?_|refine Gi2 (fun _=>?_) fun _=>?_|refine Gi3 ?_|refine Gi4 fun _=>?_|fail)
   refine OW.call (hfree G _ inferInstance inferInstance inferInstance inferInstance hlG (by omega)) ?_
   rintro _ _ ⟨rfl, rfl⟩
   cases hfr : freeP l (o.take i) a with
   | false =>
    rw [hfr, Bool.false_and, Bool.false_and] at hfin
    rw [← hfin]
    repeat' (first|refine Gi0 fun _=>?_|refine Gi1 ?_|refine CW.drawsP (id := 12) [0,1,2,3,4,5,6,7,8,9,10,11,12,13,14,15,16] mixed (by kernel_rfl) ?_|refine Gi2 (fun _=>?_) fun _=>?_|refine Gi3 ?_|refine Gi4 fun _=>?_|fail)
    exact bodyK.retD L (Res.two Tryz.results40) ⟨rfl, rfl⟩
   | true =>
    have hc1 : CutL lk (kk + a * 13 + 1) 6 [.int .i64 x.op.kind, .int .u32 x.op.ad, .int .u64 x.op.size, .int .u64 x.op.mult, .int .u64 x.op.many, vx] := cutSub hcut 1 6 (by decide)
    have hc7 : CutL lk (kk + a * 13 + 7) 4 [.int .i64 x.out.errno, .int .u32 x.out.ad, .int .i64 x.out.n, vb] := cutSub hcut 7 4 (by decide)
    have hR0 : ∀ L1 : Chunk, (∀ q ∈ G, q ∈ L1) → ∀ p ∈ [(b7, Obj.cells #[.slice (some ⟨bk, kk, none⟩) l.length cv] 84 (0, 0)), (bk, .cells lk.toArray ek frk)], p ∈ L1 := fun L1 h2 p hp => by
     simp only [List.mem_cons, List.not_mem_nil, or_false] at hp
     rcases hp with rfl | rfl
     ·exact h2 _ i7.out
     ·exact h2 _ hbin.out
    repeat' (first|refine Gi0 fun _=>?_|refine Gi1 ?_|refine Gi2 (fun _=>?_) fun _=>?_|refine Gi3 ?_|refine Gi4 fun _=>?_|fail)
    have hRL : MemC [(b7, Obj.cells #[.slice (some ⟨bk, kk, none⟩) l.length cv] 84 (0, 0)), (bk, .cells lk.toArray ek frk)] (X ++ ((bs, sCell (.slice (some ⟨bk, kk, none⟩) l.length cv) bc (.slice none 0 0)) :: (bc, .map (List.toArray es) c) :: (bn, .cells (mcells m b).toArray 142 (0, 0)) :: G)) :=
     ⟨hR0 _ fun q hq => by simp [hq]⟩
    refine CW.drawsR [(b7, Obj.cells #[.slice (some ⟨bk, kk, none⟩) l.length cv] 84 (0, 0)), (bk, .cells lk.toArray ek frk)] [0, 1, 2, 3, 4, 5, 6, 7, 8, 9, 10, 11, 12, 13, 14, 15, 16] mixed (by kernel_rfl) ?_
    repeat' (first|refine Gi0 fun _=>?_|refine Gi1 ?_|refine CW.drawsP (id := 12) [0,1,2,3,4,5,6,7,8,9,10,11,12,13,14,15,16] mixed (by kernel_rfl) ?_|refine Gi2 (fun _=>?_) fun _=>?_|refine Gi3 ?_|refine Gi4 fun _=>?_|fail)
    refine RW.call (oDo bn b m hwf x htr vx vb (X ++ G) _ hvx.to hvb.to ?_ hmr) ?_
    ·intro q hq
     rcases List.mem_append.1 hq with hq | hq <;> simp [hq]
    rintro _ _ ⟨N2, b2, rfl, rfl, hmr2⟩
    refine ⟨_, fun _ h => h, hR0 _ (fun q hq => by simp [hq]), ?_⟩
    cases hmm : (Md.next m x.op x.out).2 with
    | false =>
     rw [hfr, hmay, hmm] at hfin
     rw [← hfin]
     repeat' (first|refine Gi0 fun _=>?_|refine Gi1 ?_|refine CW.drawsP (id := 12) [0,1,2,3,4,5,6,7,8,9,10,11,12,13,14,15,16] mixed (by kernel_rfl) ?_|refine Gi2 (fun _=>?_) fun _=>?_|refine Gi3 ?_|refine Gi4 fun _=>?_|fail)
     exact bodyK.retD L (Res.two Tryz.results40) ⟨rfl, rfl⟩
    | true =>
     rw [hfr, hmay, hmm, hnext, Bool.true_and, Bool.true_and, ← hts] at hfin
     have hwf2 : WF (after m x.op x.out) := after_wf hwf htr.out.ad.1 (fun z hz => by have := hvx.byt z hz; omega) (fun z hz => by have := hvb.byt z hz; omega)
     have hfi := hc.find a
     rw [hci, if_neg (by decide)] at hfi
     have hcs := hc.snoc hci
     rw [← hts] at hcs
     repeat' (first|refine Gi0 fun _=>?_|refine Gi1 ?_|refine CW.drawsP (id := 12) [0,1,2,3,4,5,6,7,8,9,10,11,12,13,14,15,16] mixed (by kernel_rfl) ?_|refine Gi2 (fun _=>?_) fun _=>?_|refine Gi3 ?_|refine Gi4 fun _=>?_|fail)
     refine OW.mapNew (m := bc) (es := es) (c := c) (j := (a : Int)) (u := .bool true) hc.kv hfi ?_
     repeat' (first|refine Gi0 fun _=>?_|refine Gi1 ?_|refine CW.drawsP (id := 12) [0,1,2,3,4,5,6,7,8,9,10,11,12,13,14,15,16] mixed (by kernel_rfl) ?_|refine Gi2 (fun _=>?_) fun _=>?_|refine Gi3 ?_|refine Gi4 fun _=>?_|fail)
     exact ⟨hlt', rfl, ⟨N2 ++ X, _, _, after m x.op x.out, b2, hcs, by rw [List.append_assoc]; exact hmr2, hwf2, by simp, hfin⟩, inferInstance, inferInstance, inferInstance, inferInstance, inferInstance, by rw [Int.natCast_add]; infer_instance⟩
  ·obtain rfl : i = o.length := by omega
   rw [List.drop_length] at hfin
   rw [← hfin]
   repeat' (first|refine Gi0 fun _=>?_|refine Gi1 ?_|refine CW.drawsP (id := 12) [0,1,2,3,4,5,6,7,8,9,10,11,12,13,14,15,16] mixed (by kernel_rfl) ?_|refine Gi2 (fun _=>?_) fun _=>?_|refine Gi3 ?_|refine Gi4 fun _=>?_|fail)
   exact bodyK.retD L (Res.two Tryz.results40) ⟨rfl, rfl⟩
 ·exact absurd hfe hf
end Go.Proofs.YtmnhooepaemlcaaGreat
