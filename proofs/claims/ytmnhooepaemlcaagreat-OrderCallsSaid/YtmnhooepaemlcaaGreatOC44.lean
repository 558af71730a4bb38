/- OrderCalls: true for every input; arguments as before. Conditions: none. -/
import Derived.Test.YtmnhooepaemlcaaGreatOC2
import Derived.Test.YtmnhooepaemlcaaGreatOC41
import Derived.Test.YtmnhooepaemlcaaGreatOC43
set_option linter.all false
namespace Go.Proofs.YtmnhooepaemlcaaGreat
open Go Go.Pw Go.Pw.Sc Go.Pw.Md Go.Pw.Jd Go.Pw.Or
open Go.ChangeShapes Go.WideShapes Go.ChangeAt Go.RowKit
set_option maxRecDepth 100000
set_option maxHeartbeats 4000000
theorem und_tk : Tryz.prog.underlying 106 = some (.int .i64) := Und.out
theorem und_dk : Tryz.prog.underlying 109 = some (.int .i64) := Und.out
theorem und_rows : Tryz.prog.underlying 80 = some (.slice 167) := Und.out
theorem c_tk : Tryz.prog.cellsOf 106 = 1 := by kernel_rfl
theorem c_dk : Tryz.prog.cellsOf 109 = 1 := by kernel_rfl
theorem c_h : Tryz.prog.cellsOf 32 = 2 := by kernel_rfl
theorem c_turn : Tryz.prog.cellsOf 108 = 13 := by kernel_rfl
theorem c_did : Tryz.prog.cellsOf 111 = 7 := by kernel_rfl
theorem c_reply : Tryz.prog.cellsOf 113 = 11 := by kernel_rfl
theorem c_row : Tryz.prog.cellsOf 167 = 24 := by kernel_rfl
theorem list7 {l : List Value} (h : l.length = 7) : ∃ a b c d e f g, l = [a, b, c, d, e, f, g] := by
 match l, h with
 | [a, b, c, d, e, f, g], _ => exact ⟨a, b, c, d, e, f, g, rfl⟩
section
variable {H : Type} {enc : TypeId × Value → H} {W : World} {base : Nat} {sp : Nat → Bool} {held : Bool} {fuel : Nat} {cs : List Value} {x : DataW H × List MemPlace}
theorem handle_of (h : DataW.trod enc Tryz.prog W base sp held fuel 32 cs = some x) : ∃ a b, cs = [.int .i64 a, .int .i64 b] ∧ inR .i64 a ∧ inR .i64 b := by
 obtain ⟨hl, n, hf⟩ := field_of Tryz.underlying32 h
 rw [c_h] at hl
 obtain ⟨c0, c1, rfl⟩ := list2 hl
 obtain ⟨y0, f0⟩ := hf 0 _ rfl
 have f0 := i64_of und_int f0
 change ∃ n, List.take (Tryz.prog.cellsOf 3) _ = _ ∧ _ at f0
 rw [c_int] at f0
 obtain ⟨a, e0, ra⟩ := f0
 simp at e0
 subst e0
 obtain ⟨y1, f1⟩ := hf 1 _ rfl
 have f1 := i64_of und_int f1
 change ∃ n, List.take (Tryz.prog.cellsOf 3) _ = _ ∧ _ at f1
 rw [c_int] at f1
 obtain ⟨b, e1, rb⟩ := f1
 simp at e1
 subst e1
 exact ⟨a, b, rfl, ra, rb⟩
theorem turn_of (h : DataW.trod enc Tryz.prog W base sp held fuel 108 cs = some x) : ∃ u vb vd, cs = tcells u vb vd ∧ BS (whole W) vb u.obytes ∧ BS (whole W) vd u.draws ∧ TR u := by
 obtain ⟨hl, n, hf⟩ := field_of Tryz.underlying108 h
 rw [c_turn] at hl
 obtain ⟨c0, c1, c2, c3, c4, c5, c6, c7, c8, c9, c10, c11, c12, rfl⟩ := list13 hl
 obtain ⟨y0, f0⟩ := hf 0 _ rfl
 have f0 := i64_of und_tk f0
 change ∃ n, List.take (Tryz.prog.cellsOf 106) _ = _ ∧ _ at f0
 rw [c_tk] at f0
 obtain ⟨k, e0, rk⟩ := f0
 simp at e0
 subst e0
 obtain ⟨y1, f1⟩ := hf 1 _ rfl
 have f1 := i64_of und_int f1
 change ∃ n, List.take (Tryz.prog.cellsOf 3) _ = _ ∧ _ at f1
 rw [c_int] at f1
 obtain ⟨s, e1, rs⟩ := f1
 simp at e1
 subst e1
 obtain ⟨y2, f2⟩ := hf 2 _ rfl
 have f2 := i64_of und_int f2
 change ∃ n, List.take (Tryz.prog.cellsOf 3) _ = _ ∧ _ at f2
 rw [c_int] at f2
 obtain ⟨q, e2, rq⟩ := f2
 simp at e2
 subst e2
 obtain ⟨y3, f3⟩ := hf 3 _ rfl
 have f3 := i64_of und_int f3
 change ∃ n, List.take (Tryz.prog.cellsOf 3) _ = _ ∧ _ at f3
 rw [c_int] at f3
 obtain ⟨th, e3, rth⟩ := f3
 simp at e3
 subst e3
 obtain ⟨y4, f4⟩ := hf 4 _ rfl
 obtain ⟨a, b, e4, ra, rb⟩ := handle_of f4
 change List.take (Tryz.prog.cellsOf 32) _ = _ at e4
 rw [c_h] at e4
 simp at e4
 obtain ⟨rfl, rfl⟩ := e4
 obtain ⟨y5, f5⟩ := hf 5 _ rfl
 obtain ⟨k', a', s', m', n', vb, xs, e5, r1, r2, r3, r4, r5, hb⟩ := op_of f5
 change List.take (Tryz.prog.cellsOf 50) _ = _ at e5
 rw [c_op] at e5
 simp at e5
 obtain ⟨rfl, rfl, rfl, rfl, rfl, rfl⟩ := e5
 obtain ⟨y6, f6⟩ := hf 6 _ rfl
 obtain ⟨vd, ys, e6, hd⟩ := byt_of_trod und_bs und_u8 c_u8 f6
 change List.take (Tryz.prog.cellsOf 48) _ = _ at e6
 rw [c_bs] at e6
 simp at e6
 subst e6
 exact ⟨⟨k, s, q, th, a, b, k', a', s', m', n', xs, ys⟩, _, _, rfl, hb, hd, TR.lit rk rs rq rth ra rb r1 r2 r3 r4 r5⟩
theorem did_of (h : DataW.trod enc Tryz.prog W base sp held fuel 111 cs = some x) : ∃ k a d e o n vb ys, cs = [.int .i64 k, .int .i64 a, .bool d, .int .i64 e, .int .u32 o, .int .i64 n, vb] ∧ inR .i64 k ∧ inR .i64 a ∧ inR .i64 e ∧ inR .u32 o ∧ inR .i64 n ∧ BS (whole W) vb ys := by
 obtain ⟨hl, n, hf⟩ := field_of Tryz.underlying111 h
 rw [c_did] at hl
 obtain ⟨c0, c1, c2, c3, c4, c5, c6, rfl⟩ := list7 hl
 obtain ⟨y0, f0⟩ := hf 0 _ rfl
 have f0 := i64_of und_dk f0
 change ∃ n, List.take (Tryz.prog.cellsOf 109) _ = _ ∧ _ at f0
 rw [c_dk] at f0
 obtain ⟨k, e0, r0⟩ := f0
 simp at e0
 subst e0
 obtain ⟨y1, f1⟩ := hf 1 _ rfl
 have f1 := i64_of und_int f1
 change ∃ n, List.take (Tryz.prog.cellsOf 3) _ = _ ∧ _ at f1
 rw [c_int] at f1
 obtain ⟨a, e1, r1⟩ := f1
 simp at e1
 subst e1
 obtain ⟨y2, f2⟩ := hf 2 _ rfl
 obtain ⟨b, e7⟩ := bool_of und_bool f2
 change List.take (Tryz.prog.cellsOf 4) _ = _ at e7
 rw [c_bool] at e7
 simp at e7
 subst e7
 obtain ⟨y3, f3⟩ := hf 3 _ rfl
 obtain ⟨e, o, q, vo, ys, e6, q1, q2, q3, ho⟩ := out_of f3
 change List.take (Tryz.prog.cellsOf 56) _ = _ at e6
 rw [c_out] at e6
 simp at e6
 obtain ⟨rfl, rfl, rfl, rfl⟩ := e6
 exact ⟨k, a, b, e, o, q, _, ys, rfl, r0, r1, q1, q2, q3, ho⟩
theorem reply_of (h : DataW.trod enc Tryz.prog W base sp held fuel 113 cs = some x) : ∃ u vo, cs = rcells u vo ∧ BS (whole W) vo u.obytes ∧ RR u := by
 obtain ⟨hl, n, hf⟩ := field_of Tryz.underlying113 h
 rw [c_reply] at hl
 obtain ⟨c0, c1, c2, c3, c4, c5, c6, c7, c8, c9, c10, rfl⟩ := list11 hl
 obtain ⟨y0, f0⟩ := hf 0 _ rfl
 have f0 := i64_of und_en f0
 change ∃ n, List.take (Tryz.prog.cellsOf 28) _ = _ ∧ _ at f0
 rw [c_en] at f0
 obtain ⟨k, e0, r0⟩ := f0
 simp at e0
 subst e0
 obtain ⟨y1, f1⟩ := hf 1 _ rfl
 obtain ⟨a, b, e4, ra, rb⟩ := handle_of f1
 change List.take (Tryz.prog.cellsOf 32) _ = _ at e4
 rw [c_h] at e4
 simp at e4
 obtain ⟨rfl, rfl⟩ := e4
 obtain ⟨y2, f2⟩ := hf 2 _ rfl
 have f2 := i64_of und_int f2
 change ∃ n, List.take (Tryz.prog.cellsOf 3) _ = _ ∧ _ at f2
 rw [c_int] at f2
 obtain ⟨cnt, e2, r2⟩ := f2
 simp at e2
 subst e2
 obtain ⟨y3, f3⟩ := hf 3 _ rfl
 obtain ⟨dk, da, dd, e, o, q, vo, ys, e6, s1, s2, q1, q2, q3, ho⟩ := did_of f3
 change List.take (Tryz.prog.cellsOf 111) _ = _ at e6
 rw [c_did] at e6
 simp at e6
 obtain ⟨rfl, rfl, rfl, rfl, rfl, rfl, rfl⟩ := e6
 exact ⟨⟨k, a, b, cnt, dk, da, dd, e, o, q, ys⟩, _, rfl, ho, ⟨r0, ra, rb, r2, s1, s2, q1, q2, q3⟩⟩
theorem row_of (h : DataW.trod enc Tryz.prog W base sp held fuel 167 cs = some x) : ∃ u, RoAt (whole W) cs u ∧ cs.length = 24 := by
 obtain ⟨hl, n, hf⟩ := field_of Tryz.underlying167 h
 rw [c_row] at hl
 obtain ⟨y0, f0⟩ := hf 0 _ rfl
 obtain ⟨u, vb, vd, e0, b1, b2, b3⟩ := turn_of f0
 change List.take (Tryz.prog.cellsOf 108) _ = _ at e0
 rw [c_turn] at e0
 obtain ⟨y1, f1⟩ := hf 1 _ rfl
 obtain ⟨r, vo, e1, b4, b5⟩ := reply_of f1
 change List.take (Tryz.prog.cellsOf 113) _ = _ at e1
 rw [c_reply] at e1
 have e0 : cs.take 13 = tcells u vb vd := e0
 have e1 : (cs.drop 13).take 11 = rcells r vo := e1
 have e : cs = tcells u vb vd ++ rcells r vo := by
  rw [← e0, ← e1, List.take_of_length_le (l := cs.drop 13) (by rw [List.length_drop]; omega), List.take_append_drop]
 exact ⟨(u, r), ⟨vb, vd, vo, e, b1, b2, b4, b3, b5⟩, hl⟩
end
instance inhRow : Inhabited (Turn × Rp) := ⟨(⟨0, 0, 0, 0, 0, 0, 0, 0, 0, 0, 0, [], []⟩, ⟨0, 0, 0, 0, 0, 0, false, 0, 0, 0, []⟩)⟩
theorem orderCalls_lifted (os : Os) (started : os.Started) (H : Type) (enc : TypeId × Value → H) :
  ReturnsInHanded {} Tryz.checked os 6 .any (Rows.orderCallsSpec.pre6 enc Tryz.prog Tryz.f6 Rows.orderCallsRow.domain false) (Rows.orderCallsSpec.post enc Tryz.prog Tryz.f6 false true false false) := by
 refine returnsInHanded_of_change (C := Tryz.checked) own_none started (by kernel_rfl) Tryz.func6
  (ChangeSpec.witness6 (enc := enc) (C := Tryz.checked) false ⟨#[], #[.slice none 0 0, .agg #[.int .i64 0, .int .i64 0], .int .i64 0], []⟩ 8 (by kernel_rfl) (by kernel_rfl) (by kernel_rfl) (by kernel_rfl)) ?_
 intro W base args ds gs before hval0 hW hcnd _
 have hval : ∀ (j : Nat) t v, Tryz.f6.params[j]? = some t → args[j]? = some v → Value.okWide Tryz.prog W .any base t v := hval0
 have hW' := hW
 have hlt := hW.lt
 obtain ⟨p, q, hA0, hV, rfl, hfz, hnd⟩ := hW
 have hA : DataW.TrodAll enc Tryz.prog W 0 (fun _ => true) true Tryz.f6.params.toList args.toList ds p := hA0
 rw [Tryz.params6] at hA hval
 obtain ⟨v0, v1, v2, d0, d1, d2, p0, p1, p2, rfl, rfl, rfl, h0, h1, h2⟩ := trodAll_three hA
 obtain ⟨rfl, rfl⟩ := trodVars_none hV
 have h0' := h0
 have h1' := h1
 have h2' := h2
 obtain ⟨fuel, hf⟩ := h0
 obtain ⟨fuel1, hf1⟩ := h1
 obtain ⟨a0, a1, e0, r0, r1⟩ := handle_of hf1
 obtain ⟨va, l, e1, hl, _⟩ := ls_of_trod (s := 24) (R := RoAt) (by decide) und_rows c_row (fun _ _ _ h => row_of h) hf
 obtain ⟨ad, len, cap, rfl⟩ := okWide_slice und_rows (hval 0 80 v0 rfl rfl)
 obtain ⟨a2, rfl⟩ := okWide_int und_int (hval 2 3 v2 rfl rfl)
 have e1 : Value.slice ad len cap = va := by simpa [Value.cells] using e1
 subst e1
 obtain ⟨ca, rfl⟩ : ∃ ca, v1 = .agg ca := by
  have h := hval 1 32 v1 rfl rfl
  unfold Value.okWide at h
  rw [Tryz.underlying32] at h
  obtain ⟨ca, h, _⟩ := h
  exact ⟨ca, h⟩
 have e0 : ca = #[.int .i64 a0, .int .i64 a1] := by
  have e : ca.toList = [.int .i64 a0, .int .i64 a1] := e0
  rw [← Array.toArray_toList (xs := ca), e]
 subst e0
 have hwalk := callsIn_wide.1 (orderCalls _ (a0, a1) a2 l (whole W) hl ⟨r0, r1⟩ W W (st_whole W))
 refine hwalk.mono fun e W' he => ?_
 obtain ⟨rfl, hst⟩ := law_end he
 have hk := whole_kept hst.pn
 refine ⟨_, rfl, [d0, d1, d2], [], (p0 ++ p1 ++ p2) ++ [], [], p0 ++ (p1 ++ p2), [], hW', ?_, ?_, rfl, keptBut_of hst.os hst.out hk, fun h => by cases h⟩
 ·exact trodAll_mk1 (shut_bool und_bool true)
 ·exact trodAll_mk3 (trod_kept laid_out (by kernel_rfl) (of_decide_eq_true (by kernel_rfl)) h0' hk (fun x hx => hlt x (by simp; exact .inl hx))) (trod_kept laid_out (by kernel_rfl) (of_decide_eq_true (by kernel_rfl)) h1' hk (fun x hx => hlt x (by simp; exact .inr (.inl hx))))
   (trod_kept laid_out (by kernel_rfl) (of_decide_eq_true (by kernel_rfl)) h2' hk (fun x hx => hlt x (by simp; exact .inr (.inr hx))))
theorem orderCalls_holds : Rows.OrderCallsSaid :=
 OpenClaim.holds_of_wide 6 Tryz.f6 rfl rfl rfl rfl rfl rfl rfl ⟨rfl, rfl, rfl, rfl, rfl⟩ rfl rfl rfl rfl rfl (by kernel_rfl) Tryz.func6 (by kernel_rfl)
  (of_decide_eq_true (by kernel_rfl)) (by unfold Func.isWrapper; first | (rw [if_pos (by decide +kernel)]; kernel_rfl) | (rw [if_neg (by decide +kernel)]; exact ⟨rfl, rfl⟩))
  (fun os started H enc _ => orderCalls_lifted os started H enc)
#print axioms orderCalls_holds
end Go.Proofs.YtmnhooepaemlcaaGreat
