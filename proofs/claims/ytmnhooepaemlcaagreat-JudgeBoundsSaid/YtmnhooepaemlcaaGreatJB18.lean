/-
  For every input the law JudgeBounds returns true, and each argument reads behind the call as it read before. This text holds the theorem itself.
  Conditions: none.
-/
import Derived.Test.YtmnhooepaemlcaaGreatJB2
import Derived.Test.YtmnhooepaemlcaaGreatJB16
import Derived.Test.YtmnhooepaemlcaaGreatJB17
set_option linter.all false
namespace Go.Proofs.YtmnhooepaemlcaaGreat
open Go Go.Pw Go.Pw.Sc Go.Pw.Md Go.Pw.Jd
open Go.ChangeShapes Go.WideShapes Go.ChangeAt Go.RowKit

set_option maxRecDepth 100000 in
theorem judgeBounds_lifted (os : Os) (started : os.Started) (H : Type) (enc : TypeId × Value → H) :
    ReturnsInHanded {} Tryz.checked os 3 .any (Rows.judgeBoundsSpec.pre6 enc Tryz.prog Tryz.f3 Rows.judgeBoundsRow.domain false) (Rows.judgeBoundsSpec.post enc Tryz.prog Tryz.f3 false true false false) := by
  refine returnsInHanded_of_change (C := Tryz.checked) own_none started (by kernel_rfl) Tryz.func3
    (ChangeSpec.witness6 (enc := enc) (C := Tryz.checked) false ⟨#[], #[.int .i64 0, .int .i64 0], []⟩ 8 (by kernel_rfl) (by kernel_rfl) (by kernel_rfl) (by kernel_rfl)) ?_
  intro W base args ds gs before hval0 hW hcnd _
  have hval : ∀ (j : Nat) t v, Tryz.f3.params[j]? = some t → args[j]? = some v → Value.okWide Tryz.prog W .any base t v := hval0
  have hW' := hW
  have hlt := hW.lt
  obtain ⟨p, q, hA0, hV, rfl, hfz, hnd⟩ := hW
  have hA : DataW.TrodAll enc Tryz.prog W 0 (fun _ => true) true Tryz.f3.params.toList args.toList ds p := hA0
  rw [Tryz.params3] at hA hval
  obtain ⟨v0, v1, d0, d1, p0, p1, rfl, rfl, rfl, h0, h1⟩ := trodAll_two hA
  obtain ⟨rfl, rfl⟩ := trodVars_none hV
  have h0' := h0
  have h1' := h1
  obtain ⟨a0, rfl⟩ := okWide_int und_int (hval 0 3 v0 rfl rfl)
  obtain ⟨a1, rfl⟩ := okWide_int und_int (hval 1 3 v1 rfl rfl)
  have hwalk := callsIn_wide.1 (judgeBounds a0 a1 (whole W) W W (st_whole W))
  refine hwalk.mono fun e W' he => ?_
  obtain ⟨rfl, hst⟩ := law_end he
  have hk := whole_kept hst.pn
  refine ⟨_, rfl, [d0, d1], [], (p0 ++ p1) ++ [], [], p0 ++ p1, [], hW', ?_, ?_, rfl, keptBut_of hst.os hst.out hk, fun h => by cases h⟩
  · exact trodAll_mk1 (shut_bool und_bool true)
  · exact trodAll_mk2 (trod_kept laid_out (by kernel_rfl) (of_decide_eq_true (by kernel_rfl)) h0' hk (fun x hx => hlt x (by simp; exact .inl hx))) (trod_kept laid_out (by kernel_rfl) (of_decide_eq_true (by kernel_rfl)) h1' hk (fun x hx => hlt x (by simp; exact .inr hx)))

theorem judgeBounds_holds : Rows.JudgeBoundsSaid :=
  OpenClaim.holds_of_wide 3 Tryz.f3 rfl rfl rfl rfl rfl rfl rfl ⟨rfl, rfl, rfl, rfl, rfl⟩ rfl rfl rfl rfl rfl (by kernel_rfl) Tryz.func3 (by kernel_rfl)
    (of_decide_eq_true (by kernel_rfl)) (by unfold Func.isWrapper; first | (rw [if_pos (by decide +kernel)]; kernel_rfl) | (rw [if_neg (by decide +kernel)]; exact ⟨rfl, rfl⟩))
    (fun os started H enc _ => judgeBounds_lifted os started H enc)
#print axioms judgeBounds_holds
end Go.Proofs.YtmnhooepaemlcaaGreat
