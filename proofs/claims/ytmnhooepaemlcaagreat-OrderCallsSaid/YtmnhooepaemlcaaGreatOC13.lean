/- OrderCalls: true for every input; arguments as before. Part 13. Conditions: none. -/
import Derived.Test.YtmnhooepaemlcaaGreatOC2
import Derived.Test.YtmnhooepaemlcaaGreatOC3
import Derived.Test.YtmnhooepaemlcaaGreatOC12
set_option linter.all false
namespace Go.Proofs.YtmnhooepaemlcaaGreat
open Go Go.Pw Go.Pw.Sc Go.Pw.Md Go.Pw.Or
set_option maxRecDepth 100000
set_option maxHeartbeats 4000000
set_option synthInstance.maxHeartbeats 400000
set_option synthInstance.maxSize 2000
attribute [local irreducible] CW OW RW thenK blockK
attribute [local irreducible] scopeK loopK TRW ATW
def okS (slot quota : Int) : Prop := 0 ≤ slot ∧ slot < 4 ∧ 0 ≤ quota ∧ quota ≤ 1073741824
instance (slot quota : Int) : Decidable (okS slot quota) := by unfold okS; infer_instance
def findE (slot quota : Int) (l : List Td) : Int := if okS slot quota then checkE l else 2
theorem checkE_cases (l : List Td) : checkE l = 0 ∨ checkE l = 2 ∨ checkE l = 3 := by
 unfold checkE
 split
 ·exact .inr (.inl rfl)
 ·split
  ·exact .inr (.inr rfl)
  ·exact .inl rfl
theorem oBegun (slot quota : Int) (v : Value) (l : List Td) (L : Chunk) (hl : LS 13 TdAt L v l) :
  Fn1 Tryz.prog 82 [.int .i64 slot, .int .i64 quota, v] L (fun u L' =>
   (findE slot quota l = 0 ∧ okS slot quota ∧ ∃ bs bc bn bp, u = .tuple #[ptr bs, ptr bn, .int .i64 0] ∧ L' = (bs, sCell v bc (.slice none 0 0)) :: (bc, .map #[] 0) :: (bn, .cells (mcells ⟨slot, quota, []⟩ bp).toArray 142 (0, 0)) :: (bp, .map #[] 0) :: L) ∨
   (findE slot quota l ≠ 0 ∧ u = .tuple #[.pointer none, .pointer none, .int .i64 (findE slot quota l)] ∧ L' = L)) := by
 have sv := hl.sng
 unfold findE
 intro w0; refine Spec.enter3 Tryz.func82 rfl Tryz.ntmps82 (by decide) ?_
 repeat' (first|refine Ge0 fun _=>?_|refine Ge1 ?_|refine Ge2 (fun _=>?_) fun _=>?_|refine Ge3 ?_|refine Ge4 fun _=>?_|fail)
 refine OW.call (modelNew slot quota _) ?_
 intro u L1 hu
 by_cases hok : okS slot quota
 ·rw [if_pos (show 0 ≤ slot ∧ slot < 4 ∧ 0 ≤ quota ∧ quota ≤ 1073741824 from hok)] at hu
  obtain ⟨bn, bp, rfl, rfl⟩ := hu
  rw [if_pos hok]
  repeat' (first|refine Ge0 fun _=>?_|refine Ge1 ?_|refine Ge2 (fun _=>?_) fun _=>?_|refine Ge3 ?_|refine Ge4 fun _=>?_|fail)
  refine OW.call (oCheck v l _ (LS.to hl (fun c a h => TdAt.to c a h))) ?_
  rintro _ _ ⟨rfl, rfl⟩
  rcases checkE_cases l with h | h | h
  ·rw [h]
   repeat' (first|refine Ge0 fun _=>?_|refine Ge1 ?_|refine Ge2 (fun _=>?_) fun _=>?_|refine Ge3 ?_|refine Ge4 fun _=>?_|fail)
   exact bodyK.ret (Res.three Tryz.results82) (.inl ⟨rfl, hok, _, _, _, _, rfl, rfl⟩)
  ·rw [h]
   repeat' (first|refine Ge0 fun _=>?_|refine Ge1 ?_|refine Ge2 (fun _=>?_) fun _=>?_|refine Ge3 ?_|refine Ge4 fun _=>?_|fail)
   exact bodyK.retD L (Res.three Tryz.results82) (.inr ⟨by decide, rfl, rfl⟩)
  ·rw [h]
   repeat' (first|refine Ge0 fun _=>?_|refine Ge1 ?_|refine Ge2 (fun _=>?_) fun _=>?_|refine Ge3 ?_|refine Ge4 fun _=>?_|fail)
   exact bodyK.retD L (Res.three Tryz.results82) (.inr ⟨by decide, rfl, rfl⟩)
 ·rw [if_neg (show ¬ (0 ≤ slot ∧ slot < 4 ∧ 0 ≤ quota ∧ quota ≤ 1073741824) from hok)] at hu
  obtain ⟨rfl, rfl⟩ := hu
  rw [if_neg hok]
  repeat' (first|refine Ge0 fun _=>?_|refine Ge1 ?_|refine Ge2 (fun _=>?_) fun _=>?_|refine Ge3 ?_|refine Ge4 fun _=>?_|fail)
  exact bodyK.retD L (Res.three Tryz.results82) (.inr ⟨by decide, rfl, rfl⟩)
theorem mrest_new {L : Chunk} {bp : Nat} {slot quota : Int} [h : InC L bp (.map #[] 0)] : MRest L bp ⟨slot, quota, []⟩ := ⟨[], 0, [], ⟨h.out⟩, KV.nil _, by first | exact Zs.nil | exact ⟨rfl, fun _ h => by cases h⟩ | trivial, List.Perm.refl _⟩
theorem wf_new {slot quota : Int} (h : okS slot quota) : WF ⟨slot, quota, []⟩ := start_wf h
theorem len10 {l : List Td} (h : checkE l = 0) : l.length ≤ 10 := by
 unfold checkE at h
 split at h
 ·cases h
 ·split at h
  ·cases h
  ·omega
theorem oFindAll (slot quota : Int) (v : Value) (l : List Td) (L : Chunk) (hl : LS 13 TdAt L v l) :
  Fn1 Tryz.prog 39 [.int .i64 slot, .int .i64 quota, v] L (fun u L' =>
   (findE slot quota l ≠ 0 ∧ u = .tuple #[.slice none 0 0, .bool false, .int .i64 (findE slot quota l)] ∧ L' = L) ∨
   (findE slot quota l = 0 ∧ okS slot quota ∧ ∃ N, L' = N ++ L ∧ (match srch l (l.length + 1) ⟨slot, quota, []⟩ [] with
    | none => u = .tuple #[.slice none 0 0, .bool false, .int .i64 0]
    | some r => ∃ w, u = .tuple #[w, .bool true, .int .i64 0] ∧ Rd N 1 w r.length (inN r)))) := by
 have sv := hl.sng
 intro w0; refine Spec.enter3 Tryz.func39 rfl Tryz.ntmps39 (by decide) ?_
 repeat' (first|refine Ga0 fun _=>?_|refine Ga1 ?_|refine Ga2 (fun _=>?_) fun _=>?_|refine Ga3 ?_|refine Ga4 fun _=>?_|fail)
 rename_i b5
 refine OW.call (oBegun slot quota v l _ (LS.to hl (fun c a h => TdAt.to c a h))) ?_
 rintro _ _ (⟨hf, hok, bs, bc, bn, bp, rfl, rfl⟩ | ⟨hf, rfl, rfl⟩)
 ·have hch : checkE l = 0 := by unfold findE at hf; rwa [if_pos hok] at hf
  have h10 := len10 hch
  repeat' (first|refine Ga0 fun _=>?_|refine Ga1 ?_|refine Ga2 (fun _=>?_) fun _=>?_|refine Ga3 ?_|refine Ga4 fun _=>?_|fail)
  rename_i b9 bg b12 b13 b14 b15
  generalize hG : (b15, Obj.cells #[findV b9 b5 b14 b13 b12 b15] 190 (0, 0)) :: (b13, Obj.cells #[.func (.func 83) #[] #[ptr b9]] 161 (0, 0)) :: (b12, Obj.cells #[.map (some bg)] 185 (0, 0)) :: (b9, Obj.cells #[ptr bs] 182 (0, 0)) :: (bn, Obj.cells (mcells ⟨slot, quota, []⟩ bp).toArray 142 (0, 0)) :: (bp, Obj.map #[] 0) :: (b5, Obj.cells #[v] 84 (0, 0)) :: L = G
  refine OW.perm (L' := (bs, sCell v bc (.slice none 0 0)) :: (bc, .map #[] 0) :: (b14, Obj.cells #[.slice none 0 0] 35 (0, 0)) :: (bg, .map #[] 0) :: G) (by rw [← hG]; exact PermC.out) ?_
  have hE : FEnv l v b9 b5 b14 b13 b12 b15 bs bg G := by subst hG; exact ⟨ii, ii, ii, ii, ii, LS.to hl (fun c a h => TdAt.to c a h)⟩
  have i15 := hE.f
  have ibn : InC G bn (Obj.cells (mcells ⟨slot, quota, []⟩ bp).toArray 142 (0, 0)) := by subst hG; infer_instance
  have hmr : MRest G bp ⟨slot, quota, []⟩ := by subst hG; exact mrest_new
  refine OW.callV1 (FnP.vp (first := #[]) (cap := #[ptr b9, ptr b5, ptr b14, ptr b13, ptr b12, ptr b15]) (oFind2 l v b9 b5 b14 b13 b12 b15 bs bc bg h10 (l.length + 1) [] ⟨slot, quota, []⟩ bn bp (.slice none 0 0) [] 0 [] (.slice none 0 0) [] 0 [] [] G hE CM.nil (RowG.nil _ _) (by simp) (fun _ h => (by cases h)) (GoneOk.nil l G) ibn hmr (wf_new hok) (Nat.zero_le _) (by simp) (by have := Tb_10 h10 (f := l.length + 1) (by omega); simp [tot]; omega) ii)) ?_
  rintro u _ ⟨es', c', ov', N', fv', gs', gc', zs', G2, _, hrow', _, _, rfl, hm⟩
  obtain ⟨Y, hY⟩ : ∃ Y, G = Y ++ L := ⟨[_, _, _, _, _, _, _], by rw [← hG]; rfl⟩
  cases hs : srch l (l.length + 1) ⟨slot, quota, []⟩ [] with
  | none =>
   rw [hs] at hm
   obtain ⟨rfl, rfl⟩ := hm
   repeat' (first|refine Ga0 fun _=>?_|refine Ga1 ?_|refine Ga2 (fun _=>?_) fun _=>?_|refine Ga3 ?_|refine Ga4 fun _=>?_|fail)
   refine bodyK.retD (G2 ++ G) (Res.three Tryz.results39) (.inr ⟨hf, hok, G2 ++ Y, by rw [hY, List.append_assoc], ?_⟩)
   rfl
  | some r =>
   rw [hs] at hm
   obtain ⟨rfl, hr⟩ := hm
   have sfv := hr.sng
   repeat' (first|refine Ga0 fun _=>?_|refine Ga1 ?_|refine Ga2 (fun _=>?_) fun _=>?_|refine Ga3 ?_|refine Ga4 fun _=>?_|fail)
   refine bodyK.retD (G2 ++ G) (Res.three Tryz.results39) (.inr ⟨hf, hok, G2 ++ Y, by rw [hY, List.append_assoc], ?_⟩)
   exact ⟨_, rfl, hr.mono fun q hq => List.mem_append_left _ hq⟩
 ·have hfe : findE slot quota l = 2 ∨ findE slot quota l = 3 := by
   unfold findE at hf ⊢
   split
   ·rename_i hk
    rw [if_pos hk] at hf
    rcases checkE_cases l with h | h | h
    ·exact absurd h hf
    ·exact .inl h
    ·exact .inr h
   ·exact .inl rfl
  rcases hfe with h | h
  ·rw [h]
   repeat' (first|refine Ga0 fun _=>?_|refine Ga1 ?_|refine Ga2 (fun _=>?_) fun _=>?_|refine Ga3 ?_|refine Ga4 fun _=>?_|fail)
   exact bodyK.retD L (Res.three Tryz.results39) (.inl ⟨by decide, rfl, rfl⟩)
  ·rw [h]
   repeat' (first|refine Ga0 fun _=>?_|refine Ga1 ?_|refine Ga2 (fun _=>?_) fun _=>?_|refine Ga3 ?_|refine Ga4 fun _=>?_|fail)
   exact bodyK.retD L (Res.three Tryz.results39) (.inl ⟨by decide, rfl, rfl⟩)
open Go Go.Pw
end Go.Proofs.YtmnhooepaemlcaaGreat
