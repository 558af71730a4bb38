/-
  For every input the law ModelAlways returns true, and each argument reads behind the call as it read before. This text holds the theorem itself.
  Conditions: none.
-/
import Derived.Test.YtmnhooepaemlcaaGreatMA9
set_option linter.all false
namespace Go.Proofs.YtmnhooepaemlcaaGreat
open Go Go.Pw Go.Pw.Sc Go.Pw.Md
open Go.ChangeShapes Go.WideShapes Go.ChangeAt Go.RowKit

theorem bytes_act : Tryz.prog.bytesOf 58 = 120 := by kernel_rfl
set_option maxRecDepth 100000 in
theorem modelAlways_lifted (os : Os) (started : os.Started) (H : Type) (enc : TypeId × Value → H) :
    ReturnsInHanded {} Tryz.checked os 4 .any (Rows.modelAlwaysSpec.pre6 enc Tryz.prog Tryz.f4 Rows.modelAlwaysRow.domain false) (Rows.modelAlwaysSpec.post enc Tryz.prog Tryz.f4 false true false false) := by
  refine returnsInHanded_of_change_sized (C := Tryz.checked) own_none started (by kernel_rfl) Tryz.func4
    (ChangeSpec.witness6 (enc := enc) (C := Tryz.checked) false ⟨#[], #[.agg #[.int .i64 0, .int .i64 0], .slice none 0 0, .agg #[.int .i64 0, .int .u32 0, .int .u64 0, .int .u64 0, .int .u64 0, .slice none 0 0]], []⟩ 8 (by kernel_rfl) (by kernel_rfl) (by kernel_rfl) (by kernel_rfl)) ?_
  intro W base args ds gs before hval0 hW hcnd hsz _
  have hval : ∀ (j : Nat) t v, Tryz.f4.params[j]? = some t → args[j]? = some v → Value.okWide Tryz.prog W .any base t v := hval0
  have hW' := hW
  have hlt := hW.lt
  obtain ⟨p, q, hA0, hV, rfl, hfz, hnd⟩ := hW
  have hA : DataW.TrodAll enc Tryz.prog W 0 (fun _ => true) true Tryz.f4.params.toList args.toList ds p := hA0
  rw [Tryz.params4] at hA hval
  obtain ⟨v0, v1, v2, d0, d1, d2, p0, p1, p2, rfl, rfl, rfl, h0, h1, h2⟩ := trodAll_three hA
  obtain ⟨rfl, rfl⟩ := trodVars_none hV
  have h0' := h0
  have h1' := h1
  have h2' := h2
  obtain ⟨fuel, hf⟩ := h0
  obtain ⟨fuel1, hf1⟩ := h1
  obtain ⟨fuel2, hf2⟩ := h2
  obtain ⟨a0, a1, e0, _, _⟩ := two_of hf
  have hin : Inhabited ActM := ⟨⟨⟨0, 0, 0, 0, 0, []⟩, ⟨0, 0, 0, []⟩, false⟩⟩
  obtain ⟨va, acts, e1, hacts, hlen⟩ := ls_of_trod (s := 11) (R := ActAt) (by decide) und_acts c_act (fun _ _ _ h => act_of h) hf1
  obtain ⟨k, a, sz, mu, mn, vb, xs, e2, r1, r2, r3, r4, r5, hb⟩ := op_of hf2
  obtain ⟨ad, len, cap, rfl⟩ := okWide_slice und_acts (hval 1 44 v1 rfl rfl)
  have e1 : Value.slice ad len cap = va := by simpa [Value.cells] using e1
  subst e1
  obtain ⟨ca, rfl⟩ : ∃ ca, v0 = .agg ca := by
    have h := hval 0 43 v0 rfl rfl
    unfold Value.okWide at h
    rw [und_two] at h
    obtain ⟨ca, h, _⟩ := h
    exact ⟨ca, h⟩
  obtain ⟨cb, rfl⟩ : ∃ ca, v2 = .agg ca := by
    have h := hval 2 50 v2 rfl rfl
    unfold Value.okWide at h
    rw [Tryz.underlying50] at h
    obtain ⟨ca, h, _⟩ := h
    exact ⟨ca, h⟩
  have e0 : ca = #[.int .i64 a0, .int .i64 a1] := by
    have e : ca.toList = [.int .i64 a0, .int .i64 a1] := e0
    rw [← Array.toArray_toList (xs := ca), e]
  subst e0
  have e2 : cb = #[.int .i64 k, .int .u32 a, .int .u64 sz, .int .u64 mu, .int .u64 mn, vb] := by
    have e : cb.toList = [.int .i64 k, .int .u32 a, .int .u64 sz, .int .u64 mu, .int .u64 mn, vb] := e2
    rw [← Array.toArray_toList (xs := cb), e]
  subst e2
  have hbound : acts.length * 120 ≤ 140737488351232 := by
    rcases hlen with rfl | ⟨elems, sp, hx, hl⟩
    · simp
    · have hx : d1 = .slice elems sp := hx
      have := sized_slice (j := 1) (t := 44) (e := 58) hsz (by rw [Tryz.params4]; rfl) (by rw [hx]; rfl) und_acts
      change (elems.length + sp.length) * Tryz.prog.bytesOf 58 ≤ reachBytes at this
      rw [bytes_act] at this
      have h3 : reachBytes = 140737488351232 := by decide
      rw [h3] at this
      rw [← hl]
      omega
  have hwalk := callsIn_wide.1 (modelAlways a0 a1 _ acts ⟨k, a, sz, mu, mn, xs⟩ vb (whole W) hacts hb ⟨r1, r2, r3, r4, r5⟩ hbound W W (st_whole W))
  refine hwalk.mono fun e W' he => ?_
  obtain ⟨rfl, hst⟩ := law_end he
  have hk := whole_kept hst.pn
  refine ⟨_, rfl, [d0, d1, d2], [], (p0 ++ p1 ++ p2) ++ [], [], p0 ++ (p1 ++ p2), [], hW', ?_, ?_, rfl, keptBut_of hst.os hst.out hk, fun h => by cases h⟩
  · exact trodAll_mk1 (shut_bool und_bool true)
  · exact trodAll_mk3 (trod_kept laid_out (by kernel_rfl) (of_decide_eq_true (by kernel_rfl)) h0' hk (fun x hx => hlt x (by simp; exact .inl hx))) (trod_kept laid_out (by kernel_rfl) (of_decide_eq_true (by kernel_rfl)) h1' hk (fun x hx => hlt x (by simp; exact .inr (.inl hx))))
      (trod_kept laid_out (by kernel_rfl) (of_decide_eq_true (by kernel_rfl)) h2' hk (fun x hx => hlt x (by simp; exact .inr (.inr hx))))

theorem modelAlways_holds : Rows.ModelAlwaysSaid :=
  OpenClaim.holds_of_wide 4 Tryz.f4 rfl rfl rfl rfl rfl rfl rfl ⟨rfl, rfl, rfl, rfl, rfl⟩ rfl rfl rfl rfl rfl (by kernel_rfl) Tryz.func4 (by kernel_rfl)
    (of_decide_eq_true (by kernel_rfl)) (by unfold Func.isWrapper; first | (rw [if_pos (by decide +kernel)]; kernel_rfl) | (rw [if_neg (by decide +kernel)]; exact ⟨rfl, rfl⟩))
    (fun os started H enc _ => modelAlways_lifted os started H enc)
#print axioms modelAlways_holds
end Go.Proofs.YtmnhooepaemlcaaGreat
