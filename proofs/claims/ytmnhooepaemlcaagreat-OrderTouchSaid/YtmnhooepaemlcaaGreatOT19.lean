/-
  For every input the law OrderTouch returns true, and each argument reads behind the call as it read before. This text holds the theorem itself.
  Conditions: none.
-/
import Derived.Test.YtmnhooepaemlcaaGreatOT2
import Derived.Test.YtmnhooepaemlcaaGreatOT16
import Derived.Test.YtmnhooepaemlcaaGreatOT18
set_option linter.all false
namespace Go.Proofs.YtmnhooepaemlcaaGreat
open Go Go.Pw Go.Pw.Sc Go.Pw.Md Go.Pw.Or
open Go.ChangeShapes Go.WideShapes Go.ChangeAt Go.RowKit
set_option maxRecDepth 100000 in
theorem orderTouch_lifted (os : Os) (started : os.Started) (H : Type) (enc : TypeId × Value → H) :
  ReturnsInHanded {} Tryz.checked os 8 .any (Rows.orderTouchSpec.pre6 enc Tryz.prog Tryz.f8 Rows.orderTouchRow.domain false) (Rows.orderTouchSpec.post enc Tryz.prog Tryz.f8 false true false false) := by
 refine returnsInHanded_of_change (C := Tryz.checked) own_none started (by kernel_rfl) Tryz.func8
  (ChangeSpec.witness6 (enc := enc) (C := Tryz.checked) false ⟨#[], #[.int .i64 0, .int .i64 0, .slice none 0 0], []⟩ 8 (by kernel_rfl) (by kernel_rfl) (by kernel_rfl) (by kernel_rfl)) ?_
 intro W base args ds gs before hval0 hW hcnd _
 have hval : ∀ (j : Nat) t v, Tryz.f8.params[j]? = some t → args[j]? = some v → Value.okWide Tryz.prog W .any base t v := hval0
 have hW' := hW
 have hlt := hW.lt
 obtain ⟨p, q, hA0, hV, rfl, hfz, hnd⟩ := hW
 have hA : DataW.TrodAll enc Tryz.prog W 0 (fun _ => true) true Tryz.f8.params.toList args.toList ds p := hA0
 rw [Tryz.params8] at hA hval
 obtain ⟨v0, v1, v2, d0, d1, d2, p0, p1, p2, rfl, rfl, rfl, h0, h1, h2⟩ := trodAll_three hA
 obtain ⟨rfl, rfl⟩ := trodVars_none hV
 have h0' := h0
 have h1' := h1
 have h2' := h2
 obtain ⟨fuel, hf⟩ := h0
 obtain ⟨fuel1, hf1⟩ := h1
 obtain ⟨fuel2, hf2⟩ := h2
 have hin : Inhabited Td := ⟨⟨0, ⟨0, 0, 0, 0, 0, []⟩, ⟨0, 0, 0, []⟩, 0, 0⟩⟩
 obtain ⟨va, l, e2, hl, _⟩ := ls_of_trod (s := 13) (R := TdAt) (by decide) und_tolds c_told (fun _ _ _ h => told_of h) hf2
 obtain ⟨ad, len, cap, rfl⟩ := okWide_slice und_tolds (hval 2 84 v2 rfl rfl)
 have e2 : Value.slice ad len cap = va := by simpa [Value.cells] using e2
 subst e2
 obtain ⟨z0, rfl⟩ := okWide_int und_int (hval 0 3 v0 rfl rfl)
 obtain ⟨z1, rfl⟩ := okWide_int und_int (hval 1 3 v1 rfl rfl)
 have hwalk := callsIn_wide.1 (orderTouch z0 z1 _ l (whole W) hl W W (st_whole W))
 refine hwalk.mono fun e W' he => ?_
 obtain ⟨rfl, hst⟩ := law_end he
 have hk := whole_kept hst.pn
 refine ⟨_, rfl, [d0, d1, d2], [], (p0 ++ p1 ++ p2) ++ [], [], p0 ++ (p1 ++ p2), [], hW', ?_, ?_, rfl, keptBut_of hst.os hst.out hk, fun h => by cases h⟩
 ·exact trodAll_mk1 (shut_bool und_bool true)
 ·exact trodAll_mk3 (trod_kept laid_out (by kernel_rfl) (of_decide_eq_true (by kernel_rfl)) h0' hk (fun x hx => hlt x (by simp; exact .inl hx))) (trod_kept laid_out (by kernel_rfl) (of_decide_eq_true (by kernel_rfl)) h1' hk (fun x hx => hlt x (by simp; exact .inr (.inl hx))))
   (trod_kept laid_out (by kernel_rfl) (of_decide_eq_true (by kernel_rfl)) h2' hk (fun x hx => hlt x (by simp; exact .inr (.inr hx))))
theorem orderTouch_holds : Rows.OrderTouchSaid :=
 OpenClaim.holds_of_wide 8 Tryz.f8 rfl rfl rfl rfl rfl rfl rfl ⟨rfl, rfl, rfl, rfl, rfl⟩ rfl rfl rfl rfl rfl (by kernel_rfl) Tryz.func8 (by kernel_rfl)
  (of_decide_eq_true (by kernel_rfl)) (by unfold Func.isWrapper; first | (rw [if_pos (by decide +kernel)]; kernel_rfl) | (rw [if_neg (by decide +kernel)]; exact ⟨rfl, rfl⟩))
  (fun os started H enc _ => orderTouch_lifted os started H enc)
#print axioms orderTouch_holds
end Go.Proofs.YtmnhooepaemlcaaGreat
