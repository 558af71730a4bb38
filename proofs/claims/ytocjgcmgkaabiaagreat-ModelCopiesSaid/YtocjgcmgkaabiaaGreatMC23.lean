/-
  For every input the law ModelCopies returns true, and each argument reads behind the call as it read before. This text holds the theorem itself.
  Conditions: none.
-/
import Derived.Test.YtocjgcmgkaabiaaGreatMC2
import Derived.Test.YtocjgcmgkaabiaaGreatMC21
import Derived.Test.YtocjgcmgkaabiaaGreatMC22
set_option linter.all false
namespace Go.Proofs.YtocjgcmgkaabiaaGreat
open Go Go.Pw Go.Pw.Sc Go.Pw.Md
open Go.ChangeShapes Go.WideShapes Go.ChangeAt Go.RowKit
set_option maxRecDepth 100000
set_option maxHeartbeats 4000000

theorem bytes_act : Tryz.prog.bytesOf 34 = 120 := by kernel_rfl
theorem und_two_acts : Tryz.prog.underlying 35 = some (.array 2 34) := Und.out
theorem c_two_acts : Tryz.prog.cellsOf 35 = 22 := by kernel_rfl
section
variable {H : Type} {enc : TypeId × Value → H} {W : World} {base : Nat} {sp : Nat → Bool} {held : Bool} {fuel : Nat} {cs : List Value} {x : DataW H × List MemPlace}
theorem acts_of (h : DataW.trod enc Tryz.prog W base sp held fuel 35 cs = some x) : ∃ u w, ActAt (whole W) (cs.take 11) u ∧ ActAt (whole W) (cs.drop 11) w ∧ cs.length = 22 := by
  obtain ⟨xs2, m2, _, _, hl, l2, g2⟩ := DataW.trod_array und_two_acts h
  rw [c_two_acts] at hl
  obtain ⟨u, hu, hul⟩ := act_of ((g2 0 (by decide)).trans (List.getElem?_eq_getElem (by omega)))
  obtain ⟨w, hw, hwl⟩ := act_of ((g2 1 (by decide)).trans (List.getElem?_eq_getElem (by omega)))
  rw [c_act] at hu hw
  refine ⟨u, w, by simpa using hu, ?_, hl⟩
  have e : (cs.drop 11).take 11 = cs.drop 11 := List.take_of_length_le (by rw [List.length_drop]; omega)
  simpa [e] using hw
end
set_option maxRecDepth 100000 in
theorem modelCopies_lifted (os : Os) (started : os.Started) (H : Type) (enc : TypeId × Value → H) :
    ReturnsInHanded {} Tryz.checked os 3 .any (Rows.modelCopiesSpec.pre6 enc Tryz.prog Tryz.f3 Rows.modelCopiesRow.domain false) (Rows.modelCopiesSpec.post enc Tryz.prog Tryz.f3 false true false false) := by
  refine returnsInHanded_of_change_sized (C := Tryz.checked) own_none started (by kernel_rfl) Tryz.func3
    (ChangeSpec.witness6 (enc := enc) (C := Tryz.checked) false ⟨#[], #[.agg #[.int .i64 0, .int .i64 0], .slice none 0 0, .agg #[.int .i64 0, .int .u32 0, .int .u64 0, .int .u64 0, .int .u64 0, .slice none 0 0, .int .i64 0, .int .u32 0, .int .i64 0, .slice none 0 0, .bool false, .int .i64 0, .int .u32 0, .int .u64 0, .int .u64 0, .int .u64 0, .slice none 0 0, .int .i64 0, .int .u32 0, .int .i64 0, .slice none 0 0, .bool false]], []⟩ 8 (by kernel_rfl) (by kernel_rfl) (by kernel_rfl) (by kernel_rfl)) ?_
  intro W base args ds gs before hval0 hW hcnd hsz _
  have hval : ∀ (j : Nat) t v, Tryz.f3.params[j]? = some t → args[j]? = some v → Value.okWide Tryz.prog W .any base t v := hval0
  have hW' := hW
  have hlt := hW.lt
  obtain ⟨p, q, hA0, hV, rfl, hfz, hnd⟩ := hW
  have hA : DataW.TrodAll enc Tryz.prog W 0 (fun _ => true) true Tryz.f3.params.toList args.toList ds p := hA0
  rw [Tryz.params3] at hA hval
  obtain ⟨v0, v1, v2, d0, d1, d2, p0, p1, p2, rfl, rfl, rfl, h0, h1, h2⟩ := trodAll_three hA
  obtain ⟨rfl, rfl⟩ := trodVars_none hV
  have h0' := h0
  have h1' := h1
  have h2' := h2
  obtain ⟨fuel, hf⟩ := h0
  obtain ⟨fuel1, hf1⟩ := h1
  obtain ⟨fuel2, hf2⟩ := h2
  obtain ⟨a0, a1, e0, _, _⟩ := two_of hf
  have hin : Inhabited ActM := ⟨⟨⟨0, 0, 0, 0, 0, []⟩, ⟨0, 0, 0, []⟩, false⟩⟩
  obtain ⟨va, acts, e1, hacts, hlen⟩ := ls_of_trod (s := 11) (R := ActAt) (by decide) und_acts c_act (fun _ _ _ h => act_of h) hf1
  obtain ⟨x, y, ⟨vx, wx, ex, hbx, hcx, hox, hux⟩, ⟨vy, wy, ey, hby, hcy, hoy, huy⟩, hl22⟩ := acts_of hf2
  obtain ⟨ad, len, cap, rfl⟩ := okWide_slice und_acts (hval 1 23 v1 rfl rfl)
  have e1 : Value.slice ad len cap = va := by simpa [Value.cells] using e1
  subst e1
  obtain ⟨ca, rfl⟩ : ∃ ca, v0 = .agg ca := by
    have h := hval 0 22 v0 rfl rfl
    unfold Value.okWide at h
    rw [und_two] at h
    obtain ⟨ca, h, _⟩ := h
    exact ⟨ca, h⟩
  obtain ⟨cb, rfl⟩ : ∃ ca, v2 = .agg ca := by
    have h := hval 2 35 v2 rfl rfl
    unfold Value.okWide at h
    rw [und_two_acts] at h
    obtain ⟨ca, h, _⟩ := h
    exact ⟨ca, h⟩
  have e0 : ca = #[.int .i64 a0, .int .i64 a1] := by
    have e : ca.toList = [.int .i64 a0, .int .i64 a1] := e0
    rw [← Array.toArray_toList (xs := ca), e]
  subst e0
  have e2 : cb = #[Value.int .i64 x.op.kind, Value.int .u32 x.op.ad, Value.int .u64 x.op.size, Value.int .u64 x.op.mult, Value.int .u64 x.op.many, vx, Value.int .i64 x.out.errno, Value.int .u32 x.out.ad, Value.int .i64 x.out.n, wx, Value.bool x.ask, Value.int .i64 y.op.kind, Value.int .u32 y.op.ad, Value.int .u64 y.op.size, Value.int .u64 y.op.mult, Value.int .u64 y.op.many, vy, Value.int .i64 y.out.errno, Value.int .u32 y.out.ad, Value.int .i64 y.out.n, wy, Value.bool y.ask] := by
    have ex : cb.toList.take 11 = [Value.int .i64 x.op.kind, Value.int .u32 x.op.ad, Value.int .u64 x.op.size, Value.int .u64 x.op.mult, Value.int .u64 x.op.many, vx, Value.int .i64 x.out.errno, Value.int .u32 x.out.ad, Value.int .i64 x.out.n, wx, Value.bool x.ask] := ex
    have ey : cb.toList.drop 11 = [Value.int .i64 y.op.kind, Value.int .u32 y.op.ad, Value.int .u64 y.op.size, Value.int .u64 y.op.mult, Value.int .u64 y.op.many, vy, Value.int .i64 y.out.errno, Value.int .u32 y.out.ad, Value.int .i64 y.out.n, wy, Value.bool y.ask] := ey
    have e : cb.toList = [Value.int .i64 x.op.kind, Value.int .u32 x.op.ad, Value.int .u64 x.op.size, Value.int .u64 x.op.mult, Value.int .u64 x.op.many, vx, Value.int .i64 x.out.errno, Value.int .u32 x.out.ad, Value.int .i64 x.out.n, wx, Value.bool x.ask] ++ [Value.int .i64 y.op.kind, Value.int .u32 y.op.ad, Value.int .u64 y.op.size, Value.int .u64 y.op.mult, Value.int .u64 y.op.many, vy, Value.int .i64 y.out.errno, Value.int .u32 y.out.ad, Value.int .i64 y.out.n, wy, Value.bool y.ask] := by rw [← ex, ← ey, List.take_append_drop]
    rw [← Array.toArray_toList (xs := cb), e]
    rfl
  subst e2
  have hbound : acts.length * 120 ≤ 140737488351232 := by
    rcases hlen with rfl | ⟨elems, sp, hx, hl⟩
    · simp
    · have hx : d1 = .slice elems sp := hx
      have := sized_slice (j := 1) (t := 23) (e := 34) hsz (by rw [Tryz.params3]; rfl) (by rw [hx]; rfl) und_acts
      change (elems.length + sp.length) * Tryz.prog.bytesOf 34 ≤ reachBytes at this
      rw [bytes_act] at this
      have h3 : reachBytes = 140737488351232 := by decide
      rw [h3] at this
      rw [← hl]
      omega
  have hwalk := callsIn_wide.1 (modelCopies a0 a1 _ acts x y vx wx vy wy (whole W) hacts hbx hcx hby hcy hox hux hoy huy hbound W W (st_whole W))
  refine hwalk.mono fun e W' he => ?_
  obtain ⟨rfl, hst⟩ := law_end he
  have hk := whole_kept hst.pn
  refine ⟨_, rfl, [d0, d1, d2], [], (p0 ++ p1 ++ p2) ++ [], [], p0 ++ (p1 ++ p2), [], hW', ?_, ?_, rfl, keptBut_of hst.os hst.out hk, fun h => by cases h⟩
  · exact trodAll_mk1 (shut_bool und_bool true)
  · exact trodAll_mk3 (trod_kept laid_out (by kernel_rfl) (of_decide_eq_true (by kernel_rfl)) h0' hk (fun x hx => hlt x (by simp; exact .inl hx))) (trod_kept laid_out (by kernel_rfl) (of_decide_eq_true (by kernel_rfl)) h1' hk (fun x hx => hlt x (by simp; exact .inr (.inl hx))))
      (trod_kept laid_out (by kernel_rfl) (of_decide_eq_true (by kernel_rfl)) h2' hk (fun x hx => hlt x (by simp; exact .inr (.inr hx))))

theorem modelCopies_holds : Rows.ModelCopiesSaid :=
  OpenClaim.holds_of_wide 3 Tryz.f3 rfl rfl rfl rfl rfl rfl rfl ⟨rfl, rfl, rfl, rfl, rfl⟩ rfl rfl rfl rfl rfl (by kernel_rfl) Tryz.func3 (by kernel_rfl)
    (of_decide_eq_true (by kernel_rfl)) (by unfold Func.isWrapper; first | (rw [if_pos (by decide +kernel)]; kernel_rfl) | (rw [if_neg (by decide +kernel)]; exact ⟨rfl, rfl⟩))
    (fun os started H enc _ => modelCopies_lifted os started H enc)
#print axioms modelCopies_holds
end Go.Proofs.YtocjgcmgkaabiaaGreat
