/-
  For every two lives the law pinfoldlaw28.ScriptSame returns true, and its input reads afterwards as before. This text holds the theorem itself.
  Conditions: none.
-/
import Derived.Test.YtlfdaepkoagnbaaSa4
set_option linter.all false
namespace Go.Proofs.Ytlfdaepkoagnbaa
open Go Go.Pw Go.Pw.Sc
set_option maxRecDepth 100000
set_option maxHeartbeats 4000000
set_option synthInstance.maxHeartbeats 400000
set_option synthInstance.maxSize 2000
attribute [local irreducible] CW OW RW thenK blockK
attribute [local irreducible] scopeK loopK


@[reducible] def ltN : Nat → Nat → Bool
  | 0, _ + 1 => true
  | _, 0 => false
  | n + 1, m + 1 => ltN n m
theorem ltN_lt : ∀ {a b : Nat}, ltN a b = true → a < b
  | 0, _ + 1, _ => by omega
  | 0, 0, h => by cases h
  | _ + 1, 0, h => by cases h
  | n + 1, m + 1, h => by have := ltN_lt (a := n) (b := m) h; omega
instance (priority := high) outLowN {a b t : Nat} [h : IsT (ltN t a)] : OutS (a, b) t := ⟨fun h' => by have := ltN_lt h.out; have := h'.1; simp at *; omega⟩
instance (priority := high) outHighN {a b t : Nat} [h : IsT (ltN b t)] : OutS (a, b) t := ⟨fun h' => by have := ltN_lt h.out; have := h'.2; simp at *; omega⟩

theorem run_eqBool {P : Program} {w : World} (d' : Nat) {t : TypeId} {a b : Bool} (ht : P.underlying t = some .bool) : (Op.equalIn (d' + 1) t (.bool a) (.bool b)).run P w = .ok (a == b) w := by
  simp [Op.equalIn, run_underlying ht]
section
variable {P : Program} {ρ : Env} {L : Chunk} {ty : TypeId}
instance op1EqlBool {t yt : TypeId} {x y : Operand} {a b c : Bool} [ht : Und P t .bool] [hx : EvO ρ x (.bool a)] [hy : EvO ρ y (.bool b)] [h : EqB a b c] : Op1 P ρ L (.binOp .eql t x y yt) ty (.bool c) :=
  ⟨yl_of_run (fun c h => (by cases h)) fun w o ho _ _ => by
    rw [← h.out]
    have h1 : (Op.equal t (.bool a) (.bool b)).run P w = .ok (a == b) w := run_eqBool 9999 ht.out
    unfold execOp
    simp [ho, hx.out, hy.out, eqGuard, binOp, h1]⟩
end

theorem scriptSame3 (a b : Life) (va vb : Value) (L : Chunk) (ha : TS L va a.turns) (hb : TS L vb b.turns) : Fn1 Try.prog 3 [.agg (lcells a va).toArray, .agg (lcells b vb).toArray] L (fun v L' => v = .bool true ∧ L = L') := by
  intro w0; refine Spec.enter2 Try.func3 rfl Try.ntmps3 (by decide) ?_
  have sa := ha.sng
  have sb := hb.sng
  have ha0 := ha
  have hb0 := hb
  have hla := ha.len
  have hlb := hb.len
  obtain ⟨aa, ac, rfl⟩ := ha.slice
  obtain ⟨ba, bc, rfl⟩ := hb.slice
  by_cases h1 : a.turns.length ≤ 40
  · by_cases h2 : b.turns.length ≤ 40
    · repeat' (first | refine CW.seq ?_ | refine CW.block ?_ | refine CW.skip ?_ | refine CW.exit ?_ | refine CW.ret ?_ | refine CW.regionF (by kernel_rfl) ?_ | refine CW.condT ?_ | refine CW.condF ?_ | refine OW.skip (by rfl) (List.cons_ne_nil _ _) (fun _ => ?_) | refine OW.nil ?_ | refine OW.gT ?_ | refine OW.gF ?_ | refine OW.gF0 ?_ | refine OW.w (by constructor; omega; omega) ?_ | refine OW.decT (by omega) ?_ | refine OW.decF (by omega) ?_ | refine OW.dec (fun _ => ?_) (fun _ => ?_) | refine OW.p ?_ | refine OW.p0 ?_ | refine OW.ix (by constructor; omega; omega) ?_ | refine OW.ixA (by constructor; omega; omega) ?_ | refine OW.a (fun _ => ?_) | refine OW.u ?_ | refine thenK_n ?_ | refine thenK_ret ?_ | refine thenK_exit ?_ | refine blockK_n ?_ | refine blockK_ret ?_ | refine blockK_same ?_ | refine blockK_other ?_)
      refine OW.call (same16 a b (.slice aa a.turns.length ac) (.slice ba b.turns.length bc) _ ?_ ?_) ?_
      · exact ha0.to
      · exact hb0.to
      rintro _ _ ⟨rfl, rfl⟩
      by_cases hs : same a b
      · rw [decide_eq_true hs]
        repeat' (first | refine CW.seq ?_ | refine CW.block ?_ | refine CW.skip ?_ | refine CW.exit ?_ | refine CW.ret ?_ | refine CW.regionF (by kernel_rfl) ?_ | refine CW.condT ?_ | refine CW.condF ?_ | refine OW.skip (by rfl) (List.cons_ne_nil _ _) (fun _ => ?_) | refine OW.nil ?_ | refine OW.gT ?_ | refine OW.gF ?_ | refine OW.gF0 ?_ | refine OW.w (by constructor; omega; omega) ?_ | refine OW.decT (by omega) ?_ | refine OW.decF (by omega) ?_ | refine OW.dec (fun _ => ?_) (fun _ => ?_) | refine OW.p ?_ | refine OW.p0 ?_ | refine OW.ix (by constructor; omega; omega) ?_ | refine OW.ixA (by constructor; omega; omega) ?_ | refine OW.a (fun _ => ?_) | refine OW.u ?_ | refine thenK_n ?_ | refine thenK_ret ?_ | refine thenK_exit ?_ | refine blockK_n ?_ | refine blockK_ret ?_ | refine blockK_same ?_ | refine blockK_other ?_)
        refine OW.call (ssame15 a b (.slice aa a.turns.length ac) (.slice ba b.turns.length bc) _ ?_ ?_) ?_
        · exact ha0.to
        · exact hb0.to
        rintro _ _ ⟨rfl, rfl⟩
        rw [decide_eq_true hs]
        repeat' (first | refine CW.seq ?_ | refine CW.block ?_ | refine CW.skip ?_ | refine CW.exit ?_ | refine CW.ret ?_ | refine CW.regionF (by kernel_rfl) ?_ | refine CW.condT ?_ | refine CW.condF ?_ | refine OW.skip (by rfl) (List.cons_ne_nil _ _) (fun _ => ?_) | refine OW.nil ?_ | refine OW.gT ?_ | refine OW.gF ?_ | refine OW.gF0 ?_ | refine OW.w (by constructor; omega; omega) ?_ | refine OW.decT (by omega) ?_ | refine OW.decF (by omega) ?_ | refine OW.dec (fun _ => ?_) (fun _ => ?_) | refine OW.p ?_ | refine OW.p0 ?_ | refine OW.ix (by constructor; omega; omega) ?_ | refine OW.ixA (by constructor; omega; omega) ?_ | refine OW.a (fun _ => ?_) | refine OW.u ?_ | refine thenK_n ?_ | refine thenK_ret ?_ | refine thenK_exit ?_ | refine blockK_n ?_ | refine blockK_ret ?_ | refine blockK_same ?_ | refine blockK_other ?_)
        refine OW.call (ssame15 b a (.slice ba b.turns.length bc) (.slice aa a.turns.length ac) _ ?_ ?_) ?_
        · exact hb0.to
        · exact ha0.to
        rintro _ _ ⟨rfl, rfl⟩
        rw [decide_eq_true (same_symm hs)]
        repeat' (first | refine CW.seq ?_ | refine CW.block ?_ | refine CW.skip ?_ | refine CW.exit ?_ | refine CW.ret ?_ | refine CW.regionF (by kernel_rfl) ?_ | refine CW.condT ?_ | refine CW.condF ?_ | refine OW.skip (by rfl) (List.cons_ne_nil _ _) (fun _ => ?_) | refine OW.nil ?_ | refine OW.gT ?_ | refine OW.gF ?_ | refine OW.gF0 ?_ | refine OW.w (by constructor; omega; omega) ?_ | refine OW.decT (by omega) ?_ | refine OW.decF (by omega) ?_ | refine OW.dec (fun _ => ?_) (fun _ => ?_) | refine OW.p ?_ | refine OW.p0 ?_ | refine OW.ix (by constructor; omega; omega) ?_ | refine OW.ixA (by constructor; omega; omega) ?_ | refine OW.a (fun _ => ?_) | refine OW.u ?_ | refine thenK_n ?_ | refine thenK_ret ?_ | refine thenK_exit ?_ | refine blockK_n ?_ | refine blockK_ret ?_ | refine blockK_same ?_ | refine blockK_other ?_)
        refine OW.call (ssame15 a a (.slice aa a.turns.length ac) (.slice aa a.turns.length ac) _ ?_ ?_) ?_
        · exact ha0.to
        · exact ha0.to
        rintro _ _ ⟨rfl, rfl⟩
        rw [decide_eq_true (same_refl a)]
        repeat' (first | refine CW.seq ?_ | refine CW.block ?_ | refine CW.skip ?_ | refine CW.exit ?_ | refine CW.ret ?_ | refine CW.regionF (by kernel_rfl) ?_ | refine CW.condT ?_ | refine CW.condF ?_ | refine OW.skip (by rfl) (List.cons_ne_nil _ _) (fun _ => ?_) | refine OW.nil ?_ | refine OW.gT ?_ | refine OW.gF ?_ | refine OW.gF0 ?_ | refine OW.w (by constructor; omega; omega) ?_ | refine OW.decT (by omega) ?_ | refine OW.decF (by omega) ?_ | refine OW.dec (fun _ => ?_) (fun _ => ?_) | refine OW.p ?_ | refine OW.p0 ?_ | refine OW.ix (by constructor; omega; omega) ?_ | refine OW.ixA (by constructor; omega; omega) ?_ | refine OW.a (fun _ => ?_) | refine OW.u ?_ | refine thenK_n ?_ | refine thenK_ret ?_ | refine thenK_exit ?_ | refine blockK_n ?_ | refine blockK_ret ?_ | refine blockK_same ?_ | refine blockK_other ?_)
        refine OW.call (works6 _) ?_
        rintro _ _ ⟨rfl, rfl⟩
        repeat' (first | refine CW.seq ?_ | refine CW.block ?_ | refine CW.skip ?_ | refine CW.exit ?_ | refine CW.ret ?_ | refine CW.regionF (by kernel_rfl) ?_ | refine CW.condT ?_ | refine CW.condF ?_ | refine OW.skip (by rfl) (List.cons_ne_nil _ _) (fun _ => ?_) | refine OW.nil ?_ | refine OW.gT ?_ | refine OW.gF ?_ | refine OW.gF0 ?_ | refine OW.w (by constructor; omega; omega) ?_ | refine OW.decT (by omega) ?_ | refine OW.decF (by omega) ?_ | refine OW.dec (fun _ => ?_) (fun _ => ?_) | refine OW.p ?_ | refine OW.p0 ?_ | refine OW.ix (by constructor; omega; omega) ?_ | refine OW.ixA (by constructor; omega; omega) ?_ | refine OW.a (fun _ => ?_) | refine OW.u ?_ | refine thenK_n ?_ | refine thenK_ret ?_ | refine thenK_exit ?_ | refine blockK_n ?_ | refine blockK_ret ?_ | refine blockK_same ?_ | refine blockK_other ?_)
        exact bodyK.retD L (Res.one Try.results3) ⟨rfl, rfl⟩
      · rw [decide_eq_false hs]
        repeat' (first | refine CW.seq ?_ | refine CW.block ?_ | refine CW.skip ?_ | refine CW.exit ?_ | refine CW.ret ?_ | refine CW.regionF (by kernel_rfl) ?_ | refine CW.condT ?_ | refine CW.condF ?_ | refine OW.skip (by rfl) (List.cons_ne_nil _ _) (fun _ => ?_) | refine OW.nil ?_ | refine OW.gT ?_ | refine OW.gF ?_ | refine OW.gF0 ?_ | refine OW.w (by constructor; omega; omega) ?_ | refine OW.decT (by omega) ?_ | refine OW.decF (by omega) ?_ | refine OW.dec (fun _ => ?_) (fun _ => ?_) | refine OW.p ?_ | refine OW.p0 ?_ | refine OW.ix (by constructor; omega; omega) ?_ | refine OW.ixA (by constructor; omega; omega) ?_ | refine OW.a (fun _ => ?_) | refine OW.u ?_ | refine thenK_n ?_ | refine thenK_ret ?_ | refine thenK_exit ?_ | refine blockK_n ?_ | refine blockK_ret ?_ | refine blockK_same ?_ | refine blockK_other ?_)
        refine OW.call (ssame15 a b (.slice aa a.turns.length ac) (.slice ba b.turns.length bc) _ ?_ ?_) ?_
        · exact ha0.to
        · exact hb0.to
        rintro _ _ ⟨rfl, rfl⟩
        rw [decide_eq_false hs]
        repeat' (first | refine CW.seq ?_ | refine CW.block ?_ | refine CW.skip ?_ | refine CW.exit ?_ | refine CW.ret ?_ | refine CW.regionF (by kernel_rfl) ?_ | refine CW.condT ?_ | refine CW.condF ?_ | refine OW.skip (by rfl) (List.cons_ne_nil _ _) (fun _ => ?_) | refine OW.nil ?_ | refine OW.gT ?_ | refine OW.gF ?_ | refine OW.gF0 ?_ | refine OW.w (by constructor; omega; omega) ?_ | refine OW.decT (by omega) ?_ | refine OW.decF (by omega) ?_ | refine OW.dec (fun _ => ?_) (fun _ => ?_) | refine OW.p ?_ | refine OW.p0 ?_ | refine OW.ix (by constructor; omega; omega) ?_ | refine OW.ixA (by constructor; omega; omega) ?_ | refine OW.a (fun _ => ?_) | refine OW.u ?_ | refine thenK_n ?_ | refine thenK_ret ?_ | refine thenK_exit ?_ | refine blockK_n ?_ | refine blockK_ret ?_ | refine blockK_same ?_ | refine blockK_other ?_)
        refine OW.call (ssame15 b a (.slice ba b.turns.length bc) (.slice aa a.turns.length ac) _ ?_ ?_) ?_
        · exact hb0.to
        · exact ha0.to
        rintro _ _ ⟨rfl, rfl⟩
        rw [decide_eq_false (fun h => hs (same_symm h))]
        repeat' (first | refine CW.seq ?_ | refine CW.block ?_ | refine CW.skip ?_ | refine CW.exit ?_ | refine CW.ret ?_ | refine CW.regionF (by kernel_rfl) ?_ | refine CW.condT ?_ | refine CW.condF ?_ | refine OW.skip (by rfl) (List.cons_ne_nil _ _) (fun _ => ?_) | refine OW.nil ?_ | refine OW.gT ?_ | refine OW.gF ?_ | refine OW.gF0 ?_ | refine OW.w (by constructor; omega; omega) ?_ | refine OW.decT (by omega) ?_ | refine OW.decF (by omega) ?_ | refine OW.dec (fun _ => ?_) (fun _ => ?_) | refine OW.p ?_ | refine OW.p0 ?_ | refine OW.ix (by constructor; omega; omega) ?_ | refine OW.ixA (by constructor; omega; omega) ?_ | refine OW.a (fun _ => ?_) | refine OW.u ?_ | refine thenK_n ?_ | refine thenK_ret ?_ | refine thenK_exit ?_ | refine blockK_n ?_ | refine blockK_ret ?_ | refine blockK_same ?_ | refine blockK_other ?_)
        refine OW.call (ssame15 a a (.slice aa a.turns.length ac) (.slice aa a.turns.length ac) _ ?_ ?_) ?_
        · exact ha0.to
        · exact ha0.to
        rintro _ _ ⟨rfl, rfl⟩
        rw [decide_eq_true (same_refl a)]
        repeat' (first | refine CW.seq ?_ | refine CW.block ?_ | refine CW.skip ?_ | refine CW.exit ?_ | refine CW.ret ?_ | refine CW.regionF (by kernel_rfl) ?_ | refine CW.condT ?_ | refine CW.condF ?_ | refine OW.skip (by rfl) (List.cons_ne_nil _ _) (fun _ => ?_) | refine OW.nil ?_ | refine OW.gT ?_ | refine OW.gF ?_ | refine OW.gF0 ?_ | refine OW.w (by constructor; omega; omega) ?_ | refine OW.decT (by omega) ?_ | refine OW.decF (by omega) ?_ | refine OW.dec (fun _ => ?_) (fun _ => ?_) | refine OW.p ?_ | refine OW.p0 ?_ | refine OW.ix (by constructor; omega; omega) ?_ | refine OW.ixA (by constructor; omega; omega) ?_ | refine OW.a (fun _ => ?_) | refine OW.u ?_ | refine thenK_n ?_ | refine thenK_ret ?_ | refine thenK_exit ?_ | refine blockK_n ?_ | refine blockK_ret ?_ | refine blockK_same ?_ | refine blockK_other ?_)
        refine OW.call (works6 _) ?_
        rintro _ _ ⟨rfl, rfl⟩
        repeat' (first | refine CW.seq ?_ | refine CW.block ?_ | refine CW.skip ?_ | refine CW.exit ?_ | refine CW.ret ?_ | refine CW.regionF (by kernel_rfl) ?_ | refine CW.condT ?_ | refine CW.condF ?_ | refine OW.skip (by rfl) (List.cons_ne_nil _ _) (fun _ => ?_) | refine OW.nil ?_ | refine OW.gT ?_ | refine OW.gF ?_ | refine OW.gF0 ?_ | refine OW.w (by constructor; omega; omega) ?_ | refine OW.decT (by omega) ?_ | refine OW.decF (by omega) ?_ | refine OW.dec (fun _ => ?_) (fun _ => ?_) | refine OW.p ?_ | refine OW.p0 ?_ | refine OW.ix (by constructor; omega; omega) ?_ | refine OW.ixA (by constructor; omega; omega) ?_ | refine OW.a (fun _ => ?_) | refine OW.u ?_ | refine thenK_n ?_ | refine thenK_ret ?_ | refine thenK_exit ?_ | refine blockK_n ?_ | refine blockK_ret ?_ | refine blockK_same ?_ | refine blockK_other ?_)
        exact bodyK.retD L (Res.one Try.results3) ⟨rfl, rfl⟩
    · repeat' (first | refine CW.seq ?_ | refine CW.block ?_ | refine CW.skip ?_ | refine CW.exit ?_ | refine CW.ret ?_ | refine CW.regionF (by kernel_rfl) ?_ | refine CW.condT ?_ | refine CW.condF ?_ | refine OW.skip (by rfl) (List.cons_ne_nil _ _) (fun _ => ?_) | refine OW.nil ?_ | refine OW.gT ?_ | refine OW.gF ?_ | refine OW.gF0 ?_ | refine OW.w (by constructor; omega; omega) ?_ | refine OW.decT (by omega) ?_ | refine OW.decF (by omega) ?_ | refine OW.dec (fun _ => ?_) (fun _ => ?_) | refine OW.p ?_ | refine OW.p0 ?_ | refine OW.ix (by constructor; omega; omega) ?_ | refine OW.ixA (by constructor; omega; omega) ?_ | refine OW.a (fun _ => ?_) | refine OW.u ?_ | refine thenK_n ?_ | refine thenK_ret ?_ | refine thenK_exit ?_ | refine blockK_n ?_ | refine blockK_ret ?_ | refine blockK_same ?_ | refine blockK_other ?_)
      refine OW.call (works6 _) ?_
      rintro _ _ ⟨rfl, rfl⟩
      repeat' (first | refine CW.seq ?_ | refine CW.block ?_ | refine CW.skip ?_ | refine CW.exit ?_ | refine CW.ret ?_ | refine CW.regionF (by kernel_rfl) ?_ | refine CW.condT ?_ | refine CW.condF ?_ | refine OW.skip (by rfl) (List.cons_ne_nil _ _) (fun _ => ?_) | refine OW.nil ?_ | refine OW.gT ?_ | refine OW.gF ?_ | refine OW.gF0 ?_ | refine OW.w (by constructor; omega; omega) ?_ | refine OW.decT (by omega) ?_ | refine OW.decF (by omega) ?_ | refine OW.dec (fun _ => ?_) (fun _ => ?_) | refine OW.p ?_ | refine OW.p0 ?_ | refine OW.ix (by constructor; omega; omega) ?_ | refine OW.ixA (by constructor; omega; omega) ?_ | refine OW.a (fun _ => ?_) | refine OW.u ?_ | refine thenK_n ?_ | refine thenK_ret ?_ | refine thenK_exit ?_ | refine blockK_n ?_ | refine blockK_ret ?_ | refine blockK_same ?_ | refine blockK_other ?_)
      exact bodyK.retD L (Res.one Try.results3) ⟨rfl, rfl⟩
  · repeat' (first | refine CW.seq ?_ | refine CW.block ?_ | refine CW.skip ?_ | refine CW.exit ?_ | refine CW.ret ?_ | refine CW.regionF (by kernel_rfl) ?_ | refine CW.condT ?_ | refine CW.condF ?_ | refine OW.skip (by rfl) (List.cons_ne_nil _ _) (fun _ => ?_) | refine OW.nil ?_ | refine OW.gT ?_ | refine OW.gF ?_ | refine OW.gF0 ?_ | refine OW.w (by constructor; omega; omega) ?_ | refine OW.decT (by omega) ?_ | refine OW.decF (by omega) ?_ | refine OW.dec (fun _ => ?_) (fun _ => ?_) | refine OW.p ?_ | refine OW.p0 ?_ | refine OW.ix (by constructor; omega; omega) ?_ | refine OW.ixA (by constructor; omega; omega) ?_ | refine OW.a (fun _ => ?_) | refine OW.u ?_ | refine thenK_n ?_ | refine thenK_ret ?_ | refine thenK_exit ?_ | refine blockK_n ?_ | refine blockK_ret ?_ | refine blockK_same ?_ | refine blockK_other ?_)
    refine OW.call (works6 _) ?_
    rintro _ _ ⟨rfl, rfl⟩
    repeat' (first | refine CW.seq ?_ | refine CW.block ?_ | refine CW.skip ?_ | refine CW.exit ?_ | refine CW.ret ?_ | refine CW.regionF (by kernel_rfl) ?_ | refine CW.condT ?_ | refine CW.condF ?_ | refine OW.skip (by rfl) (List.cons_ne_nil _ _) (fun _ => ?_) | refine OW.nil ?_ | refine OW.gT ?_ | refine OW.gF ?_ | refine OW.gF0 ?_ | refine OW.w (by constructor; omega; omega) ?_ | refine OW.decT (by omega) ?_ | refine OW.decF (by omega) ?_ | refine OW.dec (fun _ => ?_) (fun _ => ?_) | refine OW.p ?_ | refine OW.p0 ?_ | refine OW.ix (by constructor; omega; omega) ?_ | refine OW.ixA (by constructor; omega; omega) ?_ | refine OW.a (fun _ => ?_) | refine OW.u ?_ | refine thenK_n ?_ | refine thenK_ret ?_ | refine thenK_exit ?_ | refine blockK_n ?_ | refine blockK_ret ?_ | refine blockK_same ?_ | refine blockK_other ?_)
    exact bodyK.retD L (Res.one Try.results3) ⟨rfl, rfl⟩
end Go.Proofs.Ytlfdaepkoagnbaa

namespace Go.Proofs.Ytlfdaepkoagnbaa
open Go Go.Pw Go.Pw.Sc
open Go.ChangeShapes Go.WideShapes Go.ChangeAt Go.RowKit

set_option maxRecDepth 100000 in
theorem scriptSame_lifted (os : Os) (started : os.Started) (H : Type) (enc : TypeId × Value → H) :
    ReturnsInHanded {} Try.checked os 3 .any (Rows.scriptSameSpec.pre6 enc Try.prog Try.f3 Rows.scriptSameRow.domain false) (Rows.scriptSameSpec.post enc Try.prog Try.f3 false true false false) := by
  refine returnsInHanded_of_change (C := Try.checked) own_none started (by kernel_rfl) Try.func3
    (ChangeSpec.witness6 (enc := enc) (C := Try.checked) false ⟨#[], #[.agg #[.int .i64 0, .int .u64 0, .int .i64 0, .int .i64 0, .slice none 0 0], .agg #[.int .i64 0, .int .u64 0, .int .i64 0, .int .i64 0, .slice none 0 0]], []⟩ 8 (by kernel_rfl) (by kernel_rfl) (by kernel_rfl) (by kernel_rfl)) ?_
  intro W base args ds gs before hval0 hW hcnd _
  have hval : ∀ (j : Nat) t v, Try.f3.params[j]? = some t → args[j]? = some v → Value.okWide Try.prog W .any base t v := hval0
  have hW' := hW
  have hlt := hW.lt
  obtain ⟨p, q, hA0, hV, rfl, hfz, hnd⟩ := hW
  have hA : DataW.TrodAll enc Try.prog W 0 (fun _ => true) true Try.f3.params.toList args.toList ds p := hA0
  rw [Try.params3] at hA hval
  obtain ⟨v0, v1, d0, d1, p0, p1, rfl, rfl, rfl, h0, h1⟩ := trodAll_two hA
  obtain ⟨rfl, rfl⟩ := trodVars_none hV
  have h0' := h0
  have h1' := h1
  obtain ⟨fuel, hf⟩ := h0
  obtain ⟨fuel1, hf1⟩ := h1
  obtain ⟨l, vt, e, ht, hr⟩ := life_of hf
  obtain ⟨l1, vt1, e1, ht1, hr1⟩ := life_of hf1
  have agg_of : ∀ (j : Nat) v, Try.f3.params[j]? = some 26 → (#[v0, v1] : Array Value)[j]? = some v → ∃ ca, v = .agg ca := by
    intro j v hp ha
    rw [Try.params3] at hp
    have h := hval j 26 v hp ha
    unfold Value.okWide at h
    rw [Try.underlying26] at h
    obtain ⟨ca, h, _⟩ := h
    exact ⟨ca, h⟩
  obtain ⟨ca, rfl⟩ := agg_of 0 v0 (by rw [Try.params3]; rfl) rfl
  obtain ⟨cb, rfl⟩ := agg_of 1 v1 (by rw [Try.params3]; rfl) rfl
  have e : ca = (lcells l vt).toArray := by
    have e : ca.toList = lcells l vt := e
    rw [← e]
  subst e
  have e1 : cb = (lcells l1 vt1).toArray := by
    have e1 : cb.toList = lcells l1 vt1 := e1
    rw [← e1]
  subst e1
  have hwalk := callsIn_wide.1 (scriptSame3 l l1 vt vt1 (whole W) ht ht1 W W (st_whole W))
  refine hwalk.mono fun e W' he => ?_
  obtain ⟨rfl, hst⟩ := law_end he
  have hk := whole_kept hst.pn
  refine ⟨_, rfl, [d0, d1], [], (p0 ++ p1) ++ [], [], p0 ++ p1, [], hW', ?_, ?_, rfl, keptBut_of hst.os hst.out hk, fun h => by cases h⟩
  · exact trodAll_mk1 (shut_bool und_bool true)
  · exact trodAll_mk2 (trod_kept laid_out (by kernel_rfl) (of_decide_eq_true (by kernel_rfl)) h0' hk (fun x hx => hlt x (by simp; exact .inl hx))) (trod_kept laid_out (by kernel_rfl) (of_decide_eq_true (by kernel_rfl)) h1' hk (fun x hx => hlt x (by simp; exact .inr hx)))

theorem scriptSame_holds : Rows.ScriptSameSaid :=
  OpenClaim.holds_of_wide 3 Try.f3 rfl rfl rfl rfl rfl rfl rfl ⟨rfl, rfl, rfl, rfl, rfl⟩ rfl rfl rfl rfl rfl (by kernel_rfl) Try.func3 (by kernel_rfl)
    (of_decide_eq_true (by kernel_rfl)) (by unfold Func.isWrapper; first | (rw [if_pos (by decide +kernel)]; kernel_rfl) | (rw [if_neg (by decide +kernel)]; exact ⟨rfl, rfl⟩))
    (fun os started H enc _ => scriptSame_lifted os started H enc)
#print axioms scriptSame_holds
end Go.Proofs.Ytlfdaepkoagnbaa
