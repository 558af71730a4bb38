/-
  For every input the law OrderLeast returns true, and each argument reads behind the call as it read before. This text holds the theorem itself.
  Conditions: none.
-/
import Derived.Test.YtmnhooepaemlcaaGreatOL2
import Derived.Test.YtmnhooepaemlcaaGreatOL21
import Derived.Test.YtmnhooepaemlcaaGreatOL23
set_option linter.all false
namespace Go.Proofs.YtmnhooepaemlcaaGreat
open Go Go.Pw Go.Pw.Sc Go.Pw.Md Go.Pw.Or
open Go.ChangeShapes Go.WideShapes Go.ChangeAt Go.RowKit
set_option maxRecDepth 100000 in
theorem orderLeast_lifted (os : Os) (started : os.Started) (H : Type) (enc : TypeId × Value → H) :
  ReturnsInHanded {} Tryz.checked os 7 .any (Rows.orderLeastSpec.pre6 enc Tryz.prog Tryz.f7 Rows.orderLeastRow.domain false) (Rows.orderLeastSpec.post enc Tryz.prog Tryz.f7 false true false false) := by
 refine returnsInHanded_of_change (C := Tryz.checked) own_none started (by kernel_rfl) Tryz.func7
  (ChangeSpec.witness6 (enc := enc) (C := Tryz.checked) false ⟨#[], #[.agg #[.int .i64 0, .int .i64 0], .slice none 0 0, .slice none 0 0], []⟩ 8 (by kernel_rfl) (by kernel_rfl) (by kernel_rfl) (by kernel_rfl)) ?_
 intro W base args ds gs before hval0 hW hcnd _
 have hval : ∀ (j : Nat) t v, Tryz.f7.params[j]? = some t → args[j]? = some v → Value.okWide Tryz.prog W .any base t v := hval0
 have hW' := hW
 have hlt := hW.lt
 obtain ⟨p, q, hA0, hV, rfl, hfz, hnd⟩ := hW
 have hA : DataW.TrodAll enc Tryz.prog W 0 (fun _ => true) true Tryz.f7.params.toList args.toList ds p := hA0
 rw [Tryz.params7] at hA hval
 obtain ⟨v0, v1, v2, d0, d1, d2, p0, p1, p2, rfl, rfl, rfl, h0, h1, h2⟩ := trodAll_three hA
 obtain ⟨rfl, rfl⟩ := trodVars_none hV
 have h0' := h0
 have h1' := h1
 have h2' := h2
 obtain ⟨fuel, hf⟩ := h0
 obtain ⟨fuel1, hf1⟩ := h1
 obtain ⟨fuel2, hf2⟩ := h2
 obtain ⟨a0, a1, e0, _, _⟩ := two_of hf
 have hin : Inhabited Td := ⟨⟨0, ⟨0, 0, 0, 0, 0, []⟩, ⟨0, 0, 0, []⟩, 0, 0⟩⟩
 obtain ⟨va, l, e1, hl, _⟩ := ls_of_trod (s := 13) (R := TdAt) (by decide) und_tolds c_told (fun _ _ _ h => told_of h) hf1
 obtain ⟨vb, zs, e2, hz, hzl⟩ := ints_of hf2
 obtain ⟨ad, len, cap, rfl⟩ := okWide_slice und_tolds (hval 1 84 v1 rfl rfl)
 obtain ⟨ad2, len2, cap2, rfl⟩ := okWide_slice und_ints (hval 2 35 v2 rfl rfl)
 have e1 : Value.slice ad len cap = va := by simpa [Value.cells] using e1
 have e2 : Value.slice ad2 len2 cap2 = vb := by simpa [Value.cells] using e2
 subst e1 e2
 obtain ⟨ca, rfl⟩ : ∃ ca, v0 = .agg ca := by
  have h := hval 0 43 v0 rfl rfl
  unfold Value.okWide at h
  rw [und_two] at h
  obtain ⟨ca, h, _⟩ := h
  exact ⟨ca, h⟩
 have e0 : ca = #[.int .i64 a0, .int .i64 a1] := by
  have e : ca.toList = [.int .i64 a0, .int .i64 a1] := e0
  rw [← Array.toArray_toList (xs := ca), e]
 subst e0
 have hwalk := callsIn_wide.1 (orderLeast a0 a1 _ _ l zs (whole W) hl hz hzl W W (st_whole W))
 refine hwalk.mono fun e W' he => ?_
 obtain ⟨rfl, hst⟩ := law_end he
 have hk := whole_kept hst.pn
 refine ⟨_, rfl, [d0, d1, d2], [], (p0 ++ p1 ++ p2) ++ [], [], p0 ++ (p1 ++ p2), [], hW', ?_, ?_, rfl, keptBut_of hst.os hst.out hk, fun h => by cases h⟩
 ·exact trodAll_mk1 (shut_bool und_bool true)
 ·exact trodAll_mk3 (trod_kept laid_out (by kernel_rfl) (of_decide_eq_true (by kernel_rfl)) h0' hk (fun x hx => hlt x (by simp; exact .inl hx))) (trod_kept laid_out (by kernel_rfl) (of_decide_eq_true (by kernel_rfl)) h1' hk (fun x hx => hlt x (by simp; exact .inr (.inl hx))))
   (trod_kept laid_out (by kernel_rfl) (of_decide_eq_true (by kernel_rfl)) h2' hk (fun x hx => hlt x (by simp; exact .inr (.inr hx))))
theorem orderLeast_holds : Rows.OrderLeastSaid :=
 OpenClaim.holds_of_wide 7 Tryz.f7 rfl rfl rfl rfl rfl rfl rfl ⟨rfl, rfl, rfl, rfl, rfl⟩ rfl rfl rfl rfl rfl (by kernel_rfl) Tryz.func7 (by kernel_rfl)
  (of_decide_eq_true (by kernel_rfl)) (by unfold Func.isWrapper; first | (rw [if_pos (by decide +kernel)]; kernel_rfl) | (rw [if_neg (by decide +kernel)]; exact ⟨rfl, rfl⟩))
  (fun os started H enc _ => orderLeast_lifted os started H enc)
#print axioms orderLeast_holds
end Go.Proofs.YtmnhooepaemlcaaGreat
