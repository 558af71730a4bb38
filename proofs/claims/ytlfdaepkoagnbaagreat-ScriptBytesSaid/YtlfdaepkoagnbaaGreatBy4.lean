/-
  For every input the law pinfoldlaw28.ScriptBytes returns true, and its input reads afterwards as before. This text holds lemmas for it (part 4 of 5).
  Conditions: none.
-/
import Derived.Test.YtlfdaepkoagnbaaGreatBy3
set_option linter.all false
namespace Go.Proofs.YtlfdaepkoagnbaaGreat
open Go Go.Pw Go.Pw.Sc
set_option maxRecDepth 100000
set_option maxHeartbeats 4000000
set_option synthInstance.maxHeartbeats 400000
set_option synthInstance.maxSize 2000
attribute [local irreducible] CW OW RW thenK blockK
attribute [local irreducible] scopeK loopK


instance ifaceAny : IfaceT Tryz.prog 20 := ⟨by kernel_rfl⟩

theorem caughtR (w0 : World) (be : Nat) (clr : Value) (L : Chunk) : DSpec Tryz.prog w0 17 [.pointer (some ⟨be, 0, none⟩), clr] .returning L (fun e u' L' => (∃ v, e = .returned v) ∧ settle u' = .returning ∧ L' = L) := by
  refine DSpec.recover (ρ0 := upd (upd und 0 (.pointer (some ⟨be, 0, none⟩))) 1 clr) (.inl ⟨rfl, rfl, rfl⟩) Tryz.func17 rfl Tryz.ntmps17 (show (2 : Nat) ≤ _ by decide) (by decide) (fun t => by rcases t with _ | _ | t <;> simp [upd, und]) ?_
  repeat' (first | refine CW.seq ?_ | refine CW.block ?_ | refine CW.skip ?_ | refine CW.exit ?_ | refine CW.ret ?_ | refine CW.regionF (by kernel_rfl) ?_ | refine CW.condT ?_ | refine CW.condF ?_ | refine OW.skip (by rfl) (List.cons_ne_nil _ _) (fun _ => ?_) | refine OW.nil ?_ | refine OW.gT ?_ | refine OW.gF ?_ | refine OW.gF0 ?_ | refine OW.w (by constructor; omega; omega) ?_ | refine OW.decT (by omega) ?_ | refine OW.decF (by omega) ?_ | refine OW.dec (fun _ => ?_) (fun _ => ?_) | refine OW.p ?_ | refine OW.p0 ?_ | refine OW.ix (by constructor; omega; omega) ?_ | refine OW.ixA (by constructor; omega; omega) ?_ | refine OW.a (fun _ => ?_) | refine OW.u ?_ | refine thenK_n ?_ | refine thenK_ret ?_ | refine thenK_exit ?_ | refine blockK_n ?_ | refine blockK_ret ?_ | refine blockK_same ?_ | refine blockK_other ?_)
  exact bodyD.nrm L (Res.zero Tryz.results17) ⟨⟨_, rfl⟩, rfl, rfl⟩

theorem caughtP (w0 : World) (be : Nat) (x no : Int) (clr : Value) (L L1 L2 : Chunk) [hin : InC L be (.cells #[.int .i64 x] 29 (0, 0))] [hup : UpdC L be (.cells #[.int .i64 no] 29 (0, 0)) L1] (hclr : VP Tryz.prog clr [] L1 (fun _ L' => L' = L2) noPanic) :
    DSpec Tryz.prog w0 17 [.pointer (some ⟨be, 0, none⟩), clr] (.panicking (pnc no)) L (fun e u' L' => (∃ v, e = .returned v) ∧ settle u' = .returning ∧ L' = L2) := by
  refine DSpec.recover (ρ0 := upd (upd und 0 (.pointer (some ⟨be, 0, none⟩))) 1 clr) (.inr ⟨_, rfl, rfl, rfl⟩) Tryz.func17 rfl Tryz.ntmps17 (show (2 : Nat) ≤ _ by decide) (by decide) (fun t => by rcases t with _ | _ | t <;> simp [upd, und]) ?_
  repeat' (first | refine CW.seq ?_ | refine CW.block ?_ | refine CW.skip ?_ | refine CW.exit ?_ | refine CW.ret ?_ | refine CW.regionF (by kernel_rfl) ?_ | refine CW.condT ?_ | refine CW.condF ?_ | refine OW.skip (by rfl) (List.cons_ne_nil _ _) (fun _ => ?_) | refine OW.nil ?_ | refine OW.gT ?_ | refine OW.gF ?_ | refine OW.gF0 ?_ | refine OW.w (by constructor; omega; omega) ?_ | refine OW.decT (by omega) ?_ | refine OW.decF (by omega) ?_ | refine OW.dec (fun _ => ?_) (fun _ => ?_) | refine OW.p ?_ | refine OW.p0 ?_ | refine OW.ix (by constructor; omega; omega) ?_ | refine OW.ixA (by constructor; omega; omega) ?_ | refine OW.a (fun _ => ?_) | refine OW.u ?_ | refine thenK_n ?_ | refine thenK_ret ?_ | refine thenK_exit ?_ | refine blockK_n ?_ | refine blockK_ret ?_ | refine blockK_same ?_ | refine blockK_other ?_)
  refine OW.callV1 hclr ?_
  rintro u L2' rfl
  repeat' (first | refine CW.seq ?_ | refine CW.block ?_ | refine CW.skip ?_ | refine CW.exit ?_ | refine CW.ret ?_ | refine CW.regionF (by kernel_rfl) ?_ | refine CW.condT ?_ | refine CW.condF ?_ | refine OW.skip (by rfl) (List.cons_ne_nil _ _) (fun _ => ?_) | refine OW.nil ?_ | refine OW.gT ?_ | refine OW.gF ?_ | refine OW.gF0 ?_ | refine OW.w (by constructor; omega; omega) ?_ | refine OW.decT (by omega) ?_ | refine OW.decF (by omega) ?_ | refine OW.dec (fun _ => ?_) (fun _ => ?_) | refine OW.p ?_ | refine OW.p0 ?_ | refine OW.ix (by constructor; omega; omega) ?_ | refine OW.ixA (by constructor; omega; omega) ?_ | refine OW.a (fun _ => ?_) | refine OW.u ?_ | refine thenK_n ?_ | refine thenK_ret ?_ | refine thenK_exit ?_ | refine blockK_n ?_ | refine blockK_ret ?_ | refine blockK_same ?_ | refine blockK_other ?_)
  exact bodyD.nrm L2' (Res.zero Tryz.results17) ⟨⟨_, rfl⟩, rfl, rfl⟩

theorem enc1clr (bo : Nat) (v : Value) (L : Chunk) {L1 : Chunk} [hin : InC L bo (.cells #[v] 22 (0, 0))] [hup : UpdC L bo (.cells #[.slice none 0 0] 22 (0, 0)) L1] :
    Fn1 Tryz.prog 29 [.pointer (some ⟨bo, 0, none⟩)] L (fun _ L' => L' = L1) := by
  intro w0; refine Spec.enter1 Tryz.func29 rfl Tryz.ntmps29 (by decide) ?_
  repeat' (first | refine CW.seq ?_ | refine CW.block ?_ | refine CW.skip ?_ | refine CW.exit ?_ | refine CW.ret ?_ | refine CW.regionF (by kernel_rfl) ?_ | refine CW.condT ?_ | refine CW.condF ?_ | refine OW.skip (by rfl) (List.cons_ne_nil _ _) (fun _ => ?_) | refine OW.nil ?_ | refine OW.gT ?_ | refine OW.gF ?_ | refine OW.gF0 ?_ | refine OW.w (by constructor; omega; omega) ?_ | refine OW.decT (by omega) ?_ | refine OW.decF (by omega) ?_ | refine OW.dec (fun _ => ?_) (fun _ => ?_) | refine OW.p ?_ | refine OW.p0 ?_ | refine OW.ix (by constructor; omega; omega) ?_ | refine OW.ixA (by constructor; omega; omega) ?_ | refine OW.a (fun _ => ?_) | refine OW.u ?_ | refine thenK_n ?_ | refine thenK_ret ?_ | refine thenK_exit ?_ | refine blockK_n ?_ | refine blockK_ret ?_ | refine blockK_same ?_ | refine blockK_other ?_)
  exact bodyK.nrm (Res.zero Tryz.results29) rfl

theorem encode11 (l : Life) (vt : Value) (L : Chunk) (ht : TS L vt l.turns) (hr : LR l) :
    Fn1 Tryz.prog 11 [.agg (lcells l vt).toArray] L (fun v L' => ∃ N u, v = .tuple #[u, .int .i64 (check l)] ∧ L' = N ++ L ∧ ((check l = 0 ∧ Row 5 1 N u (encodeB l).length (bv (encodeB l))) ∨ (check l ≠ 0 ∧ u = .slice none 0 0))) := by
  intro w0; refine Spec.enterM1 Tryz.func11 rfl Tryz.ntmps11 (by decide) ?_
  have st := ht.sng
  repeat' (first | refine CW.seq ?_ | refine CW.block ?_ | refine CW.skip ?_ | refine CW.exit ?_ | refine CW.ret ?_ | refine CW.regionF (by kernel_rfl) ?_ | refine CW.condT ?_ | refine CW.condF ?_ | refine OW.skip (by rfl) (List.cons_ne_nil _ _) (fun _ => ?_) | refine OW.nil ?_ | refine OW.gT ?_ | refine OW.gF ?_ | refine OW.gF0 ?_ | refine OW.w (by constructor; omega; omega) ?_ | refine OW.decT (by omega) ?_ | refine OW.decF (by omega) ?_ | refine OW.dec (fun _ => ?_) (fun _ => ?_) | refine OW.p ?_ | refine OW.p0 ?_ | refine OW.ix (by constructor; omega; omega) ?_ | refine OW.ixA (by constructor; omega; omega) ?_ | refine OW.a (fun _ => ?_) | refine OW.u ?_ | refine thenK_n ?_ | refine thenK_ret ?_ | refine thenK_exit ?_ | refine blockK_n ?_ | refine blockK_ret ?_ | refine blockK_same ?_ | refine blockK_other ?_)
  rename_i bx bo be
  refine OW.defer ?_
  repeat' (first | refine CW.seq ?_ | refine CW.block ?_ | refine CW.skip ?_ | refine CW.exit ?_ | refine CW.ret ?_ | refine CW.regionF (by kernel_rfl) ?_ | refine CW.condT ?_ | refine CW.condF ?_ | refine OW.skip (by rfl) (List.cons_ne_nil _ _) (fun _ => ?_) | refine OW.nil ?_ | refine OW.gT ?_ | refine OW.gF ?_ | refine OW.gF0 ?_ | refine OW.w (by constructor; omega; omega) ?_ | refine OW.decT (by omega) ?_ | refine OW.decF (by omega) ?_ | refine OW.dec (fun _ => ?_) (fun _ => ?_) | refine OW.p ?_ | refine OW.p0 ?_ | refine OW.ix (by constructor; omega; omega) ?_ | refine OW.ixA (by constructor; omega; omega) ?_ | refine OW.a (fun _ => ?_) | refine OW.u ?_ | refine thenK_n ?_ | refine thenK_ret ?_ | refine thenK_exit ?_ | refine blockK_n ?_ | refine blockK_ret ?_ | refine blockK_same ?_ | refine blockK_other ?_)
  refine OW.callX (encode30 l vt _ ht.to hr) ?_ ?_
  · rintro _ _ ⟨hne, rfl, rfl⟩
    repeat' (first | refine thenK_p ?_ | refine blockK_p ?_ | refine loopK_p ?_ | refine scopeK_p ?_)
    refine bodyM.pncDef L (caughtP w0 be 0 (check l) _ _ _ _ (FnP.vp (first := #[]) (cap := #[.pointer (some ⟨bo, 0, none⟩)]) (enc1clr bo (.slice none 0 0) _))) (Res.of2 Tryz.results11) ?_
    exact ⟨[], _, rfl, rfl, .inr ⟨hne, rfl⟩⟩
  · rintro u _ ⟨hz, N, rfl, hrow⟩
    have su := hrow.sng
    repeat' (first | refine CW.seq ?_ | refine CW.block ?_ | refine CW.skip ?_ | refine CW.exit ?_ | refine CW.ret ?_ | refine CW.regionF (by kernel_rfl) ?_ | refine CW.condT ?_ | refine CW.condF ?_ | refine OW.skip (by rfl) (List.cons_ne_nil _ _) (fun _ => ?_) | refine OW.nil ?_ | refine OW.gT ?_ | refine OW.gF ?_ | refine OW.gF0 ?_ | refine OW.w (by constructor; omega; omega) ?_ | refine OW.decT (by omega) ?_ | refine OW.decF (by omega) ?_ | refine OW.dec (fun _ => ?_) (fun _ => ?_) | refine OW.p ?_ | refine OW.p0 ?_ | refine OW.ix (by constructor; omega; omega) ?_ | refine OW.ixA (by constructor; omega; omega) ?_ | refine OW.a (fun _ => ?_) | refine OW.u ?_ | refine thenK_n ?_ | refine thenK_ret ?_ | refine thenK_exit ?_ | refine blockK_n ?_ | refine blockK_ret ?_ | refine blockK_same ?_ | refine blockK_other ?_)
    refine bodyM.retDef (N ++ L) (caughtR w0 be _ _) (Res.of2 Tryz.results11) ?_
    exact ⟨N, _, by rw [hz], rfl, .inl ⟨hz, hrow⟩⟩

theorem check13 (l : Life) (vt : Value) (L : Chunk) (ht : TS L vt l.turns) (hr : LR l) : Fn1 Tryz.prog 13 [.agg (lcells l vt).toArray] L (fun v L' => v = .int .i64 (check l) ∧ L = L') := by
  intro w0; refine Spec.enter1 Tryz.func13 rfl Tryz.ntmps13 (by decide) ?_
  have st := ht.sng
  repeat' (first | refine CW.seq ?_ | refine CW.block ?_ | refine CW.skip ?_ | refine CW.exit ?_ | refine CW.ret ?_ | refine CW.regionF (by kernel_rfl) ?_ | refine CW.condT ?_ | refine CW.condF ?_ | refine OW.skip (by rfl) (List.cons_ne_nil _ _) (fun _ => ?_) | refine OW.nil ?_ | refine OW.gT ?_ | refine OW.gF ?_ | refine OW.gF0 ?_ | refine OW.w (by constructor; omega; omega) ?_ | refine OW.decT (by omega) ?_ | refine OW.decF (by omega) ?_ | refine OW.dec (fun _ => ?_) (fun _ => ?_) | refine OW.p ?_ | refine OW.p0 ?_ | refine OW.ix (by constructor; omega; omega) ?_ | refine OW.ixA (by constructor; omega; omega) ?_ | refine OW.a (fun _ => ?_) | refine OW.u ?_ | refine thenK_n ?_ | refine thenK_ret ?_ | refine thenK_exit ?_ | refine blockK_n ?_ | refine blockK_ret ?_ | refine blockK_same ?_ | refine blockK_other ?_)
  refine OW.call (encode11 l vt _ ht.to hr) ?_
  rintro _ _ ⟨N, u, rfl, rfl, _⟩
  repeat' (first | refine CW.seq ?_ | refine CW.block ?_ | refine CW.skip ?_ | refine CW.exit ?_ | refine CW.ret ?_ | refine CW.regionF (by kernel_rfl) ?_ | refine CW.condT ?_ | refine CW.condF ?_ | refine OW.skip (by rfl) (List.cons_ne_nil _ _) (fun _ => ?_) | refine OW.nil ?_ | refine OW.gT ?_ | refine OW.gF ?_ | refine OW.gF0 ?_ | refine OW.w (by constructor; omega; omega) ?_ | refine OW.decT (by omega) ?_ | refine OW.decF (by omega) ?_ | refine OW.dec (fun _ => ?_) (fun _ => ?_) | refine OW.p ?_ | refine OW.p0 ?_ | refine OW.ix (by constructor; omega; omega) ?_ | refine OW.ixA (by constructor; omega; omega) ?_ | refine OW.a (fun _ => ?_) | refine OW.u ?_ | refine thenK_n ?_ | refine thenK_ret ?_ | refine thenK_exit ?_ | refine blockK_n ?_ | refine blockK_ret ?_ | refine blockK_same ?_ | refine blockK_other ?_)
  exact bodyK.retD L (Res.one Tryz.results13) ⟨rfl, rfl⟩
end Go.Proofs.YtlfdaepkoagnbaaGreat

namespace Go.Proofs.YtlfdaepkoagnbaaGreat
open Go Go.Pw Go.Pw.Sc
set_option maxRecDepth 100000
set_option maxHeartbeats 4000000
set_option synthInstance.maxHeartbeats 400000
set_option synthInstance.maxSize 2000
attribute [local irreducible] CW OW RW thenK blockK
attribute [local irreducible] scopeK loopK


/-- A reader's block. -/
@[reducible] def rds (br : Nat) (v : Value) : Nat × Obj := (br, .cells #[v] 61 (0, 0))
theorem py1 : (256 : Int) ^ (1 : Int).toNat = 256 := rfl
theorem py2 : (256 : Int) ^ (2 : Int).toNat = 65536 := rfl
theorem py4 : (256 : Int) ^ (4 : Int).toNat = 4294967296 := rfl
theorem py8 : (256 : Int) ^ (8 : Int).toNat = 18446744073709551616 := rfl

theorem stake (br : Nat) (n : Int) (v : Value) (xs : List Int) (D L : Chunk) {C : Chunk → Chunk} [hat : At L [rds br v] C] [hD : MemC D (C [])] (hv : BS D v xs) (hn : 0 ≤ n) (hl : xs.length ≤ 65536) :
    FnP Tryz.prog 44 [.pointer (some ⟨br, 0, none⟩), .int .i64 n] L
      (fun u L' => ∃ N v' a xs', L' = N ++ C [rds br v'] ∧ BS N u a ∧ BS D v' xs' ∧ takeP n.toNat xs = some (a, xs') ∧ xs'.length ≤ xs.length ∧ a.length ≤ 65536)
      (fun ch L' => takeP n.toNat xs = none ∧ ch = pnc 380 ∧ L' = C []) := by
  intro w0; refine Spec.enter2 Tryz.func44 rfl Tryz.ntmps44 (by decide) ?_
  have hv0 := hv
  have sv := hv.sng
  obtain ⟨A, B, rfl, hC⟩ := hat.out
  simp only [hC] at hD ⊢
  clear hC hat
  obtain ⟨va, vc, rfl⟩ := hv.slice
  by_cases hlt : n ≤ xs.length
  · repeat' (first | refine CW.seq ?_ | refine CW.block ?_ | refine CW.skip ?_ | refine CW.exit ?_ | refine CW.ret ?_ | refine CW.regionF (by kernel_rfl) ?_ | refine CW.condT ?_ | refine CW.condF ?_ | refine OW.skip (by rfl) (List.cons_ne_nil _ _) (fun _ => ?_) | refine OW.nil ?_ | refine OW.gT ?_ | refine OW.gF ?_ | refine OW.gF0 ?_ | refine OW.w (by constructor; omega; omega) ?_ | refine OW.decT (by omega) ?_ | refine OW.decF (by omega) ?_ | refine OW.dec (fun _ => ?_) (fun _ => ?_) | refine OW.p ?_ | refine OW.p0 ?_ | refine OW.ix (by constructor; omega; omega) ?_ | refine OW.ixA (by constructor; omega; omega) ?_ | refine OW.a (fun _ => ?_) | refine OW.u ?_ | refine thenK_n ?_ | refine thenK_ret ?_ | refine thenK_exit ?_ | refine blockK_n ?_ | refine blockK_ret ?_ | refine blockK_same ?_ | refine blockK_other ?_)
    refine OW.callX (must true 380 _) (fun _ _ h => (by cases h.1)) ?_
    rintro _ _ ⟨_, rfl⟩
    repeat' (first | refine CW.seq ?_ | refine CW.block ?_ | refine CW.skip ?_ | refine CW.exit ?_ | refine CW.ret ?_ | refine CW.regionF (by kernel_rfl) ?_ | refine CW.condT ?_ | refine CW.condF ?_ | refine OW.skip (by rfl) (List.cons_ne_nil _ _) (fun _ => ?_) | refine OW.nil ?_ | refine OW.gT ?_ | refine OW.gF ?_ | refine OW.gF0 ?_ | refine OW.w (by constructor; omega; omega) ?_ | refine OW.decT (by omega) ?_ | refine OW.decF (by omega) ?_ | refine OW.dec (fun _ => ?_) (fun _ => ?_) | refine OW.p ?_ | refine OW.p0 ?_ | refine OW.ix (by constructor; omega; omega) ?_ | refine OW.ixA (by constructor; omega; omega) ?_ | refine OW.a (fun _ => ?_) | refine OW.u ?_ | refine thenK_n ?_ | refine thenK_ret ?_ | refine thenK_exit ?_ | refine blockK_n ?_ | refine blockK_ret ?_ | refine blockK_same ?_ | refine blockK_other ?_)
    refine OW.slHi hv.rd (by omega) ?_
    have hh := hv.hi (n := n.toNat) (by omega)
    have hlo := hv.lo (n := n.toNat) (by omega)
    have s1 := hlo.sng
    have s2 := hh.sng
    repeat' (first | refine CW.seq ?_ | refine CW.block ?_ | refine CW.skip ?_ | refine CW.exit ?_ | refine CW.ret ?_ | refine CW.regionF (by kernel_rfl) ?_ | refine CW.condT ?_ | refine CW.condF ?_ | refine OW.skip (by rfl) (List.cons_ne_nil _ _) (fun _ => ?_) | refine OW.nil ?_ | refine OW.gT ?_ | refine OW.gF ?_ | refine OW.gF0 ?_ | refine OW.w (by constructor; omega; omega) ?_ | refine OW.decT (by omega) ?_ | refine OW.decF (by omega) ?_ | refine OW.dec (fun _ => ?_) (fun _ => ?_) | refine OW.p ?_ | refine OW.p0 ?_ | refine OW.ix (by constructor; omega; omega) ?_ | refine OW.ixA (by constructor; omega; omega) ?_ | refine OW.a (fun _ => ?_) | refine OW.u ?_ | refine thenK_n ?_ | refine thenK_ret ?_ | refine thenK_exit ?_ | refine blockK_n ?_ | refine blockK_ret ?_ | refine blockK_same ?_ | refine blockK_other ?_)
    have hhL : BS (A ++ [rds br (.slice va xs.length vc)] ++ B) (slV (.slice va xs.length vc) 0 n.toNat 1) (xs.take n.toNat) := @BS.to _ _ _ _ hh ⟨fun p hp => by
      have := hD.out p hp
      simp only [List.append_nil, List.mem_append] at this
      simp only [List.mem_append]
      rcases this with h | h
      · exact .inl (.inl h)
      · exact .inr h⟩
    refine OW.call (cloneS _ (xs.take n.toNat) _ hhL (by rw [List.length_take]; omega)) ?_
    rintro u _ ⟨N, rfl, hu⟩
    have su := hu.sng
    repeat' (first | refine CW.seq ?_ | refine CW.block ?_ | refine CW.skip ?_ | refine CW.exit ?_ | refine CW.ret ?_ | refine CW.regionF (by kernel_rfl) ?_ | refine CW.condT ?_ | refine CW.condF ?_ | refine OW.skip (by rfl) (List.cons_ne_nil _ _) (fun _ => ?_) | refine OW.nil ?_ | refine OW.gT ?_ | refine OW.gF ?_ | refine OW.gF0 ?_ | refine OW.w (by constructor; omega; omega) ?_ | refine OW.decT (by omega) ?_ | refine OW.decF (by omega) ?_ | refine OW.dec (fun _ => ?_) (fun _ => ?_) | refine OW.p ?_ | refine OW.p0 ?_ | refine OW.ix (by constructor; omega; omega) ?_ | refine OW.ixA (by constructor; omega; omega) ?_ | refine OW.a (fun _ => ?_) | refine OW.u ?_ | refine thenK_n ?_ | refine thenK_ret ?_ | refine thenK_exit ?_ | refine blockK_n ?_ | refine blockK_ret ?_ | refine blockK_same ?_ | refine blockK_other ?_)
    refine OW.slLo hv.rd (by omega) ?_
    repeat' (first | refine CW.seq ?_ | refine CW.block ?_ | refine CW.skip ?_ | refine CW.exit ?_ | refine CW.ret ?_ | refine CW.regionF (by kernel_rfl) ?_ | refine CW.condT ?_ | refine CW.condF ?_ | refine OW.skip (by rfl) (List.cons_ne_nil _ _) (fun _ => ?_) | refine OW.nil ?_ | refine OW.gT ?_ | refine OW.gF ?_ | refine OW.gF0 ?_ | refine OW.w (by constructor; omega; omega) ?_ | refine OW.decT (by omega) ?_ | refine OW.decF (by omega) ?_ | refine OW.dec (fun _ => ?_) (fun _ => ?_) | refine OW.p ?_ | refine OW.p0 ?_ | refine OW.ix (by constructor; omega; omega) ?_ | refine OW.ixA (by constructor; omega; omega) ?_ | refine OW.a (fun _ => ?_) | refine OW.u ?_ | refine thenK_n ?_ | refine thenK_ret ?_ | refine thenK_exit ?_ | refine blockK_n ?_ | refine blockK_ret ?_ | refine blockK_same ?_ | refine blockK_other ?_)
    refine bodyK.ret (Res.one Tryz.results44) ⟨N, _, _, _, rfl, hu, hlo, ?_, by simp, by simp; omega⟩
    unfold takeP
    rw [if_pos (by omega)]
  · repeat' (first | refine CW.seq ?_ | refine CW.block ?_ | refine CW.skip ?_ | refine CW.exit ?_ | refine CW.ret ?_ | refine CW.regionF (by kernel_rfl) ?_ | refine CW.condT ?_ | refine CW.condF ?_ | refine OW.skip (by rfl) (List.cons_ne_nil _ _) (fun _ => ?_) | refine OW.nil ?_ | refine OW.gT ?_ | refine OW.gF ?_ | refine OW.gF0 ?_ | refine OW.w (by constructor; omega; omega) ?_ | refine OW.decT (by omega) ?_ | refine OW.decF (by omega) ?_ | refine OW.dec (fun _ => ?_) (fun _ => ?_) | refine OW.p ?_ | refine OW.p0 ?_ | refine OW.ix (by constructor; omega; omega) ?_ | refine OW.ixA (by constructor; omega; omega) ?_ | refine OW.a (fun _ => ?_) | refine OW.u ?_ | refine thenK_n ?_ | refine thenK_ret ?_ | refine thenK_exit ?_ | refine blockK_n ?_ | refine blockK_ret ?_ | refine blockK_same ?_ | refine blockK_other ?_)
    refine OW.callX (must false 380 _) ?_ (fun _ _ h => (by cases h.1))
    rintro _ _ ⟨_, rfl, rfl⟩
    repeat' (first | refine thenK_p ?_ | refine blockK_p ?_ | refine loopK_p ?_ | refine scopeK_p ?_)
    refine bodyK.pnc (A ++ [] ++ B) ⟨?_, rfl, rfl⟩
    unfold takeP
    rw [if_neg (by omega)]

theorem sget (br : Nat) (w : Int) (hw : isW w) (v : Value) (xs : List Int) (D L : Chunk) {C : Chunk → Chunk} [hat : At L [rds br v] C] [hD : MemC D (C [])] (hv : BS D v xs) (hl : xs.length ≤ 65536) :
    FnP Tryz.prog 22 [.pointer (some ⟨br, 0, none⟩), .int .i64 w] L
      (fun u L' => ∃ v' n xs', u = .int .u64 n ∧ L' = C [rds br v'] ∧ BS D v' xs' ∧ numP w.toNat xs = some (n, xs') ∧ xs'.length ≤ xs.length ∧ 0 ≤ n ∧ n < 256 ^ w.toNat)
      (fun ch L' => numP w.toNat xs = none ∧ ch = pnc 380 ∧ L' = C []) := by
  intro w0; refine Spec.enter2 Tryz.func22 rfl Tryz.ntmps22 (by decide) ?_
  have hw0 : 0 ≤ w := by rcases hw with rfl | rfl | rfl | rfl <;> decide
  repeat' (first | refine CW.seq ?_ | refine CW.block ?_ | refine CW.skip ?_ | refine CW.exit ?_ | refine CW.ret ?_ | refine CW.regionF (by kernel_rfl) ?_ | refine CW.condT ?_ | refine CW.condF ?_ | refine OW.skip (by rfl) (List.cons_ne_nil _ _) (fun _ => ?_) | refine OW.nil ?_ | refine OW.gT ?_ | refine OW.gF ?_ | refine OW.gF0 ?_ | refine OW.w (by constructor; omega; omega) ?_ | refine OW.decT (by omega) ?_ | refine OW.decF (by omega) ?_ | refine OW.dec (fun _ => ?_) (fun _ => ?_) | refine OW.p ?_ | refine OW.p0 ?_ | refine OW.ix (by constructor; omega; omega) ?_ | refine OW.ixA (by constructor; omega; omega) ?_ | refine OW.a (fun _ => ?_) | refine OW.u ?_ | refine thenK_n ?_ | refine thenK_ret ?_ | refine thenK_exit ?_ | refine blockK_n ?_ | refine blockK_ret ?_ | refine blockK_same ?_ | refine blockK_other ?_)
  refine OW.callX (stake br w v xs D L hv hw0 hl) ?_ ?_
  · rintro _ _ ⟨h, rfl, rfl⟩
    repeat' (first | refine thenK_p ?_ | refine blockK_p ?_ | refine loopK_p ?_ | refine scopeK_p ?_)
    exact bodyK.pnc (C []) ⟨by simp [numP, h], rfl, rfl⟩
  · rintro u _ ⟨N, v', a, xs', rfl, hu, hv', htk, hle, hla⟩
    obtain ⟨A, B, rfl, hC⟩ := hat.out
    simp only [hC]
    clear hC hat hD
    have su := hu.sng
    repeat' (first | refine CW.seq ?_ | refine CW.block ?_ | refine CW.skip ?_ | refine CW.exit ?_ | refine CW.ret ?_ | refine CW.regionF (by kernel_rfl) ?_ | refine CW.condT ?_ | refine CW.condF ?_ | refine OW.skip (by rfl) (List.cons_ne_nil _ _) (fun _ => ?_) | refine OW.nil ?_ | refine OW.gT ?_ | refine OW.gF ?_ | refine OW.gF0 ?_ | refine OW.w (by constructor; omega; omega) ?_ | refine OW.decT (by omega) ?_ | refine OW.decF (by omega) ?_ | refine OW.dec (fun _ => ?_) (fun _ => ?_) | refine OW.p ?_ | refine OW.p0 ?_ | refine OW.ix (by constructor; omega; omega) ?_ | refine OW.ixA (by constructor; omega; omega) ?_ | refine OW.a (fun _ => ?_) | refine OW.u ?_ | refine thenK_n ?_ | refine thenK_ret ?_ | refine thenK_exit ?_ | refine blockK_n ?_ | refine blockK_ret ?_ | refine blockK_same ?_ | refine blockK_other ?_)
    refine OW.call (get u a _ hu.to) ?_
    rintro _ _ ⟨rfl, rfl⟩
    have hlen : a.length = w.toNat := (takeP_inv htk).2
    have hwa : isW a.length := by
      have : ((a.length : Nat) : Int) = w := by omega
      rw [this]; exact hw
    rw [if_pos hwa]
    repeat' (first | refine CW.seq ?_ | refine CW.block ?_ | refine CW.skip ?_ | refine CW.exit ?_ | refine CW.ret ?_ | refine CW.regionF (by kernel_rfl) ?_ | refine CW.condT ?_ | refine CW.condF ?_ | refine OW.skip (by rfl) (List.cons_ne_nil _ _) (fun _ => ?_) | refine OW.nil ?_ | refine OW.gT ?_ | refine OW.gF ?_ | refine OW.gF0 ?_ | refine OW.w (by constructor; omega; omega) ?_ | refine OW.decT (by omega) ?_ | refine OW.decF (by omega) ?_ | refine OW.dec (fun _ => ?_) (fun _ => ?_) | refine OW.p ?_ | refine OW.p0 ?_ | refine OW.ix (by constructor; omega; omega) ?_ | refine OW.ixA (by constructor; omega; omega) ?_ | refine OW.a (fun _ => ?_) | refine OW.u ?_ | refine thenK_n ?_ | refine thenK_ret ?_ | refine thenK_exit ?_ | refine blockK_n ?_ | refine blockK_ret ?_ | refine blockK_same ?_ | refine blockK_other ?_)
    exact bodyK.retD (A ++ [rds br v'] ++ B) (Res.one Tryz.results22) ⟨v', leN a, xs', rfl, rfl, hv', by simp [numP, htk], hle, leN_nonneg _ hu.byt, hlen ▸ leN_lt _ hu.byt⟩

theorem ssmall (br : Nat) (v : Value) (xs : List Int) (D L : Chunk) {C : Chunk → Chunk} [hat : At L [rds br v] C] [hD : MemC D (C [])] (hv : BS D v xs) (hl : xs.length ≤ 65536) :
    FnP Tryz.prog 21 [.pointer (some ⟨br, 0, none⟩)] L
      (fun u L' => ∃ v' n xs', u = .int .i64 n ∧ L' = C [rds br v'] ∧ BS D v' xs' ∧ smallP xs = some (n, xs') ∧ xs'.length ≤ xs.length ∧ 0 ≤ n ∧ n ≤ 2147483647)
      (fun ch L' => smallP xs = none ∧ ch = pnc 380 ∧ L' = C []) := by
  intro w0; refine Spec.enter1 Tryz.func21 rfl Tryz.ntmps21 (by decide) ?_
  repeat' (first | refine CW.seq ?_ | refine CW.block ?_ | refine CW.skip ?_ | refine CW.exit ?_ | refine CW.ret ?_ | refine CW.regionF (by kernel_rfl) ?_ | refine CW.condT ?_ | refine CW.condF ?_ | refine OW.skip (by rfl) (List.cons_ne_nil _ _) (fun _ => ?_) | refine OW.nil ?_ | refine OW.gT ?_ | refine OW.gF ?_ | refine OW.gF0 ?_ | refine OW.w (by constructor; omega; omega) ?_ | refine OW.decT (by omega) ?_ | refine OW.decF (by omega) ?_ | refine OW.dec (fun _ => ?_) (fun _ => ?_) | refine OW.p ?_ | refine OW.p0 ?_ | refine OW.ix (by constructor; omega; omega) ?_ | refine OW.ixA (by constructor; omega; omega) ?_ | refine OW.a (fun _ => ?_) | refine OW.u ?_ | refine thenK_n ?_ | refine thenK_ret ?_ | refine thenK_exit ?_ | refine blockK_n ?_ | refine blockK_ret ?_ | refine blockK_same ?_ | refine blockK_other ?_)
  refine OW.callX (sget br 4 (by decide) v xs D L hv hl) ?_ ?_
  · rintro _ _ ⟨h, rfl, rfl⟩
    have h : numP 4 xs = none := h
    repeat' (first | refine thenK_p ?_ | refine blockK_p ?_ | refine loopK_p ?_ | refine scopeK_p ?_)
    exact bodyK.pnc (C []) ⟨by simp [smallP, h], rfl, rfl⟩
  · rintro _ _ ⟨v', n, xs', rfl, rfl, hv', hnum, hle, h0, h1⟩
    have hnum : numP 4 xs = some (n, xs') := hnum
    obtain ⟨A, B, rfl, hC⟩ := hat.out
    simp only [hC]
    clear hC hat hD
    rw [py4] at h1
    by_cases hm : n ≤ 2147483647
    · repeat' (first | refine CW.seq ?_ | refine CW.block ?_ | refine CW.skip ?_ | refine CW.exit ?_ | refine CW.ret ?_ | refine CW.regionF (by kernel_rfl) ?_ | refine CW.condT ?_ | refine CW.condF ?_ | refine OW.skip (by rfl) (List.cons_ne_nil _ _) (fun _ => ?_) | refine OW.nil ?_ | refine OW.gT ?_ | refine OW.gF ?_ | refine OW.gF0 ?_ | refine OW.w (by constructor; omega; omega) ?_ | refine OW.decT (by omega) ?_ | refine OW.decF (by omega) ?_ | refine OW.dec (fun _ => ?_) (fun _ => ?_) | refine OW.p ?_ | refine OW.p0 ?_ | refine OW.ix (by constructor; omega; omega) ?_ | refine OW.ixA (by constructor; omega; omega) ?_ | refine OW.a (fun _ => ?_) | refine OW.u ?_ | refine thenK_n ?_ | refine thenK_ret ?_ | refine thenK_exit ?_ | refine blockK_n ?_ | refine blockK_ret ?_ | refine blockK_same ?_ | refine blockK_other ?_)
      refine OW.callX (must true 380 _) (fun _ _ h => (by cases h.1)) ?_
      rintro _ _ ⟨_, rfl⟩
      repeat' (first | refine CW.seq ?_ | refine CW.block ?_ | refine CW.skip ?_ | refine CW.exit ?_ | refine CW.ret ?_ | refine CW.regionF (by kernel_rfl) ?_ | refine CW.condT ?_ | refine CW.condF ?_ | refine OW.skip (by rfl) (List.cons_ne_nil _ _) (fun _ => ?_) | refine OW.nil ?_ | refine OW.gT ?_ | refine OW.gF ?_ | refine OW.gF0 ?_ | refine OW.w (by constructor; omega; omega) ?_ | refine OW.decT (by omega) ?_ | refine OW.decF (by omega) ?_ | refine OW.dec (fun _ => ?_) (fun _ => ?_) | refine OW.p ?_ | refine OW.p0 ?_ | refine OW.ix (by constructor; omega; omega) ?_ | refine OW.ixA (by constructor; omega; omega) ?_ | refine OW.a (fun _ => ?_) | refine OW.u ?_ | refine thenK_n ?_ | refine thenK_ret ?_ | refine thenK_exit ?_ | refine blockK_n ?_ | refine blockK_ret ?_ | refine blockK_same ?_ | refine blockK_other ?_)
      exact bodyK.ret (Res.one Tryz.results21) ⟨v', n, xs', rfl, rfl, hv', by simp [smallP, hnum, most, hm], hle, h0, hm⟩
    · repeat' (first | refine CW.seq ?_ | refine CW.block ?_ | refine CW.skip ?_ | refine CW.exit ?_ | refine CW.ret ?_ | refine CW.regionF (by kernel_rfl) ?_ | refine CW.condT ?_ | refine CW.condF ?_ | refine OW.skip (by rfl) (List.cons_ne_nil _ _) (fun _ => ?_) | refine OW.nil ?_ | refine OW.gT ?_ | refine OW.gF ?_ | refine OW.gF0 ?_ | refine OW.w (by constructor; omega; omega) ?_ | refine OW.decT (by omega) ?_ | refine OW.decF (by omega) ?_ | refine OW.dec (fun _ => ?_) (fun _ => ?_) | refine OW.p ?_ | refine OW.p0 ?_ | refine OW.ix (by constructor; omega; omega) ?_ | refine OW.ixA (by constructor; omega; omega) ?_ | refine OW.a (fun _ => ?_) | refine OW.u ?_ | refine thenK_n ?_ | refine thenK_ret ?_ | refine thenK_exit ?_ | refine blockK_n ?_ | refine blockK_ret ?_ | refine blockK_same ?_ | refine blockK_other ?_)
      refine OW.callX (must false 380 _) ?_ (fun _ _ h => (by cases h.1))
      rintro _ _ ⟨_, rfl, rfl⟩
      repeat' (first | refine thenK_p ?_ | refine blockK_p ?_ | refine loopK_p ?_ | refine scopeK_p ?_)
      exact bodyK.pnc (A ++ [] ++ B) ⟨by simp [smallP, hnum, most, hm], rfl, rfl⟩
end Go.Proofs.YtlfdaepkoagnbaaGreat

namespace Go.Proofs.YtlfdaepkoagnbaaGreat
open Go Go.Pw Go.Pw.Sc
set_option maxRecDepth 100000
set_option maxHeartbeats 4000000
set_option synthInstance.maxHeartbeats 400000
set_option synthInstance.maxSize 2000
attribute [local irreducible] CW OW RW thenK blockK
attribute [local irreducible] scopeK loopK



theorem read_created (br bo : Nat) (v : Value) (xs : List Int) (D L : Chunk) (o0 o1 o2 o3 o4 o5 o6 o7 o8 o9 o10 o11 o12 : Value) {C : Chunk → Chunk → Chunk} [hat : At2 L [(bo, .cells #[o0, o1, o2, o3, o4, o5, o6, o7, o8, o9, o10, o11, o12] 47 (0, 0))] [rds br v] C] [hD : MemC D (C [] [])] (hv : BS D v xs) (hl : xs.length ≤ 65536) :
    FnP Tryz.prog 82 [.pointer (some ⟨br, 0, none⟩), .pointer (some ⟨bo, 0, none⟩)] L
      (fun _ L' => ∃ N v' a g xs', L' = N ++ C [(bo, .cells #[o0, .int .i64 a, .int .i64 g, o3, o4, o5, o6, o7, o8, o9, o10, o11, o12] 47 (0, 0))] [rds br v'] ∧ BS D v' xs' ∧ handP xs = some ((a, g), xs') ∧ xs'.length ≤ xs.length ∧ (0 ≤ a ∧ a ≤ 255) ∧ 0 ≤ g ∧ g ≤ 2147483647)
      (fun ch L' => handP xs = none ∧ ch = pnc 380 ∧ L' = C [] []) := by
  intro w0; refine Spec.enter2 Tryz.func82 rfl Tryz.ntmps82 (by decide) ?_
  obtain ⟨A, B, E, rfl, hC⟩ := hat.out
  simp only [hC] at hD ⊢
  clear hC hat
  have hDa : ∀ X Y, MemC D (A ++ X ++ B ++ Y ++ E) := fun X Y => ⟨fun p hp => by
    have := hD.out p hp
    simp only [List.append_nil, List.mem_append] at this
    simp only [List.mem_append]
    rcases this with (h | h) | h
    · exact .inl (.inl (.inl (.inl h)))
    · exact .inl (.inl (.inr h))
    · exact .inr h⟩
  repeat' (first | refine CW.seq ?_ | refine CW.block ?_ | refine CW.skip ?_ | refine CW.exit ?_ | refine CW.ret ?_ | refine CW.regionF (by kernel_rfl) ?_ | refine CW.condT ?_ | refine CW.condF ?_ | refine OW.skip (by rfl) (List.cons_ne_nil _ _) (fun _ => ?_) | refine OW.nil ?_ | refine OW.gT ?_ | refine OW.gF ?_ | refine OW.gF0 ?_ | refine OW.w (by constructor; omega; omega) ?_ | refine OW.decT (by omega) ?_ | refine OW.decF (by omega) ?_ | refine OW.dec (fun _ => ?_) (fun _ => ?_) | refine OW.p ?_ | refine OW.p0 ?_ | refine OW.ix (by constructor; omega; omega) ?_ | refine OW.ixA (by constructor; omega; omega) ?_ | refine OW.a (fun _ => ?_) | refine OW.u ?_ | refine RW.skip (by rfl) (List.cons_ne_nil _ _) (fun _ => ?_) | refine RW.nil ?_ | refine RW.gF ?_ | refine RW.gF0 ?_ | refine RW.w (by constructor; omega; omega) rfl ?_ | refine RW.decT (by omega) rfl ?_ | refine RW.decF (by omega) rfl ?_ | refine RW.dec rfl (fun _ => ?_) (fun _ => ?_) | refine RW.p rfl ?_ | refine RW.p0 rfl ?_ | refine RW.ix (by constructor; omega; omega) ?_ | refine RW.ixA (by constructor; omega; omega) ?_ | refine RW.a rfl (fun _ => ?_) | refine RW.u rfl ?_ | refine thenK_n ?_ | refine thenK_ret ?_ | refine thenK_exit ?_ | refine blockK_n ?_ | refine blockK_ret ?_ | refine blockK_same ?_ | refine blockK_other ?_)
  refine CW.drawsR ([]) [0, 1, 2, 3, 4, 7, 8, 9, 5, 6, 10, 11, 12, 13, 14, 15, 16] mixed (by kernel_rfl) ?_
  repeat' (first | refine CW.seq ?_ | refine CW.block ?_ | refine CW.skip ?_ | refine CW.exit ?_ | refine CW.ret ?_ | refine CW.regionF (by kernel_rfl) ?_ | refine CW.drawsT mixed (by kernel_rfl) ?_ | refine CW.condT ?_ | refine CW.condF ?_ | refine OW.skip (by rfl) (List.cons_ne_nil _ _) (fun _ => ?_) | refine OW.nil ?_ | refine OW.gT ?_ | refine OW.gF ?_ | refine OW.gF0 ?_ | refine OW.w (by constructor; omega; omega) ?_ | refine OW.decT (by omega) ?_ | refine OW.decF (by omega) ?_ | refine OW.dec (fun _ => ?_) (fun _ => ?_) | refine OW.p ?_ | refine OW.p0 ?_ | refine OW.ix (by constructor; omega; omega) ?_ | refine OW.ixA (by constructor; omega; omega) ?_ | refine OW.a (fun _ => ?_) | refine OW.u ?_ | refine RW.skip (by rfl) (List.cons_ne_nil _ _) (fun _ => ?_) | refine RW.nil ?_ | refine RW.gF ?_ | refine RW.gF0 ?_ | refine RW.w (by constructor; omega; omega) rfl ?_ | refine RW.decT (by omega) rfl ?_ | refine RW.decF (by omega) rfl ?_ | refine RW.dec rfl (fun _ => ?_) (fun _ => ?_) | refine RW.p rfl ?_ | refine RW.p0 rfl ?_ | refine RW.ix (by constructor; omega; omega) ?_ | refine RW.ixA (by constructor; omega; omega) ?_ | refine RW.a rfl (fun _ => ?_) | refine RW.u rfl ?_ | refine thenK_n ?_ | refine thenK_ret ?_ | refine thenK_exit ?_ | refine blockK_n ?_ | refine blockK_ret ?_ | refine blockK_same ?_ | refine blockK_other ?_)
  refine RW.callX (sget br 1 (by decide) v xs D _ hv (by omega)) ?_ ?_
  · rintro _ _ ⟨h, rfl, rfl⟩
    have h : numP 1 xs = none := h
    repeat' (first | refine thenK_p ?_ | refine blockK_p ?_ | refine loopK_p ?_ | refine scopeK_p ?_)
    exact bodyK.pnc (A ++ [] ++ B ++ [] ++ E) ⟨by unfold handP; rw [bind_no h], rfl, rfl⟩
  rintro _ _ ⟨v1, n1, xs1, rfl, rfl, hv1, e1, le1, p1, q1⟩
  have e1 : numP 1 xs = some (n1, xs1) := e1
  rw [py1] at q1
  have s1 := hv1.sng
  refine pinOld ?_
  repeat' (first | refine CW.seq ?_ | refine CW.block ?_ | refine CW.skip ?_ | refine CW.exit ?_ | refine CW.ret ?_ | refine CW.regionF (by kernel_rfl) ?_ | refine CW.drawsT mixed (by kernel_rfl) ?_ | refine CW.condT ?_ | refine CW.condF ?_ | refine OW.skip (by rfl) (List.cons_ne_nil _ _) (fun _ => ?_) | refine OW.nil ?_ | refine OW.gT ?_ | refine OW.gF ?_ | refine OW.gF0 ?_ | refine OW.w (by constructor; omega; omega) ?_ | refine OW.decT (by omega) ?_ | refine OW.decF (by omega) ?_ | refine OW.dec (fun _ => ?_) (fun _ => ?_) | refine OW.p ?_ | refine OW.p0 ?_ | refine OW.ix (by constructor; omega; omega) ?_ | refine OW.ixA (by constructor; omega; omega) ?_ | refine OW.a (fun _ => ?_) | refine OW.u ?_ | refine RW.skip (by rfl) (List.cons_ne_nil _ _) (fun _ => ?_) | refine RW.nil ?_ | refine RW.gF ?_ | refine RW.gF0 ?_ | refine RW.w (by constructor; omega; omega) rfl ?_ | refine RW.decT (by omega) rfl ?_ | refine RW.decF (by omega) rfl ?_ | refine RW.dec rfl (fun _ => ?_) (fun _ => ?_) | refine RW.p rfl ?_ | refine RW.p0 rfl ?_ | refine RW.ix (by constructor; omega; omega) ?_ | refine RW.ixA (by constructor; omega; omega) ?_ | refine RW.a rfl (fun _ => ?_) | refine RW.u rfl ?_ | refine thenK_n ?_ | refine thenK_ret ?_ | refine thenK_exit ?_ | refine blockK_n ?_ | refine blockK_ret ?_ | refine blockK_same ?_ | refine blockK_other ?_)
  refine RW.callX (ssmall br v1 xs1 D _ hv1 (by omega)) ?_ ?_
  · rintro _ _ ⟨h, rfl, rfl⟩
    repeat' (first | refine thenK_p ?_ | refine blockK_p ?_ | refine loopK_p ?_ | refine scopeK_p ?_)
    exact bodyK.pnc (A ++ [] ++ B ++ [] ++ E) ⟨by unfold handP; rw [bind_of e1, bind_no h], rfl, rfl⟩
  rintro _ _ ⟨v2, n2, xs2, rfl, rfl, hv2, e2, le2, p2, q2⟩
  have s2 := hv2.sng
  refine pinOld ?_
  repeat' (first | refine CW.seq ?_ | refine CW.block ?_ | refine CW.skip ?_ | refine CW.exit ?_ | refine CW.ret ?_ | refine CW.regionF (by kernel_rfl) ?_ | refine CW.drawsT mixed (by kernel_rfl) ?_ | refine CW.condT ?_ | refine CW.condF ?_ | refine OW.skip (by rfl) (List.cons_ne_nil _ _) (fun _ => ?_) | refine OW.nil ?_ | refine OW.gT ?_ | refine OW.gF ?_ | refine OW.gF0 ?_ | refine OW.w (by constructor; omega; omega) ?_ | refine OW.decT (by omega) ?_ | refine OW.decF (by omega) ?_ | refine OW.dec (fun _ => ?_) (fun _ => ?_) | refine OW.p ?_ | refine OW.p0 ?_ | refine OW.ix (by constructor; omega; omega) ?_ | refine OW.ixA (by constructor; omega; omega) ?_ | refine OW.a (fun _ => ?_) | refine OW.u ?_ | refine RW.skip (by rfl) (List.cons_ne_nil _ _) (fun _ => ?_) | refine RW.nil ?_ | refine RW.gF ?_ | refine RW.gF0 ?_ | refine RW.w (by constructor; omega; omega) rfl ?_ | refine RW.decT (by omega) rfl ?_ | refine RW.decF (by omega) rfl ?_ | refine RW.dec rfl (fun _ => ?_) (fun _ => ?_) | refine RW.p rfl ?_ | refine RW.p0 rfl ?_ | refine RW.ix (by constructor; omega; omega) ?_ | refine RW.ixA (by constructor; omega; omega) ?_ | refine RW.a rfl (fun _ => ?_) | refine RW.u rfl ?_ | refine thenK_n ?_ | refine thenK_ret ?_ | refine thenK_exit ?_ | refine blockK_n ?_ | refine blockK_ret ?_ | refine blockK_same ?_ | refine blockK_other ?_)
  exact bodyK.nrmD ((A ++ [(bo, .cells #[o0, .int .i64 n1, .int .i64 n2, o3, o4, o5, o6, o7, o8, o9, o10, o11, o12] 47 (0, 0))] ++ B ++ [rds br v2] ++ E)) (Res.zero Tryz.results82) ⟨[], v2, n1, n2, xs2, rfl, hv2, by unfold handP; rw [bind_of e1, bind_of e2]; rfl, by omega, ⟨p1, by omega⟩, p2, q2⟩

theorem read_handle (br bo : Nat) (v : Value) (xs : List Int) (D L : Chunk) (o0 o1 o2 o3 o4 o5 o6 o7 o8 o9 o10 o11 o12 : Value) {C : Chunk → Chunk → Chunk} [hat : At2 L [(bo, .cells #[o0, o1, o2, o3, o4, o5, o6, o7, o8, o9, o10, o11, o12] 47 (0, 0))] [rds br v] C] [hD : MemC D (C [] [])] (hv : BS D v xs) (hl : xs.length ≤ 65536) :
    FnP Tryz.prog 88 [.pointer (some ⟨br, 0, none⟩), .pointer (some ⟨bo, 0, none⟩)] L
      (fun _ L' => ∃ N v' a g xs', L' = N ++ C [(bo, .cells #[o0, o1, o2, o3, .int .i64 a, .int .i64 g, o6, o7, o8, o9, o10, o11, o12] 47 (0, 0))] [rds br v'] ∧ BS D v' xs' ∧ handP xs = some ((a, g), xs') ∧ xs'.length ≤ xs.length ∧ (0 ≤ a ∧ a ≤ 255) ∧ 0 ≤ g ∧ g ≤ 2147483647)
      (fun ch L' => handP xs = none ∧ ch = pnc 380 ∧ L' = C [] []) := by
  intro w0; refine Spec.enter2 Tryz.func88 rfl Tryz.ntmps88 (by decide) ?_
  obtain ⟨A, B, E, rfl, hC⟩ := hat.out
  simp only [hC] at hD ⊢
  clear hC hat
  have hDa : ∀ X Y, MemC D (A ++ X ++ B ++ Y ++ E) := fun X Y => ⟨fun p hp => by
    have := hD.out p hp
    simp only [List.append_nil, List.mem_append] at this
    simp only [List.mem_append]
    rcases this with (h | h) | h
    · exact .inl (.inl (.inl (.inl h)))
    · exact .inl (.inl (.inr h))
    · exact .inr h⟩
  repeat' (first | refine CW.seq ?_ | refine CW.block ?_ | refine CW.skip ?_ | refine CW.exit ?_ | refine CW.ret ?_ | refine CW.regionF (by kernel_rfl) ?_ | refine CW.condT ?_ | refine CW.condF ?_ | refine OW.skip (by rfl) (List.cons_ne_nil _ _) (fun _ => ?_) | refine OW.nil ?_ | refine OW.gT ?_ | refine OW.gF ?_ | refine OW.gF0 ?_ | refine OW.w (by constructor; omega; omega) ?_ | refine OW.decT (by omega) ?_ | refine OW.decF (by omega) ?_ | refine OW.dec (fun _ => ?_) (fun _ => ?_) | refine OW.p ?_ | refine OW.p0 ?_ | refine OW.ix (by constructor; omega; omega) ?_ | refine OW.ixA (by constructor; omega; omega) ?_ | refine OW.a (fun _ => ?_) | refine OW.u ?_ | refine RW.skip (by rfl) (List.cons_ne_nil _ _) (fun _ => ?_) | refine RW.nil ?_ | refine RW.gF ?_ | refine RW.gF0 ?_ | refine RW.w (by constructor; omega; omega) rfl ?_ | refine RW.decT (by omega) rfl ?_ | refine RW.decF (by omega) rfl ?_ | refine RW.dec rfl (fun _ => ?_) (fun _ => ?_) | refine RW.p rfl ?_ | refine RW.p0 rfl ?_ | refine RW.ix (by constructor; omega; omega) ?_ | refine RW.ixA (by constructor; omega; omega) ?_ | refine RW.a rfl (fun _ => ?_) | refine RW.u rfl ?_ | refine thenK_n ?_ | refine thenK_ret ?_ | refine thenK_exit ?_ | refine blockK_n ?_ | refine blockK_ret ?_ | refine blockK_same ?_ | refine blockK_other ?_)
  refine CW.drawsR ([]) [0, 1, 2, 3, 6, 7, 8, 4, 5, 9, 10, 11, 12, 13] mixed (by kernel_rfl) ?_
  repeat' (first | refine CW.seq ?_ | refine CW.block ?_ | refine CW.skip ?_ | refine CW.exit ?_ | refine CW.ret ?_ | refine CW.regionF (by kernel_rfl) ?_ | refine CW.drawsT mixed (by kernel_rfl) ?_ | refine CW.condT ?_ | refine CW.condF ?_ | refine OW.skip (by rfl) (List.cons_ne_nil _ _) (fun _ => ?_) | refine OW.nil ?_ | refine OW.gT ?_ | refine OW.gF ?_ | refine OW.gF0 ?_ | refine OW.w (by constructor; omega; omega) ?_ | refine OW.decT (by omega) ?_ | refine OW.decF (by omega) ?_ | refine OW.dec (fun _ => ?_) (fun _ => ?_) | refine OW.p ?_ | refine OW.p0 ?_ | refine OW.ix (by constructor; omega; omega) ?_ | refine OW.ixA (by constructor; omega; omega) ?_ | refine OW.a (fun _ => ?_) | refine OW.u ?_ | refine RW.skip (by rfl) (List.cons_ne_nil _ _) (fun _ => ?_) | refine RW.nil ?_ | refine RW.gF ?_ | refine RW.gF0 ?_ | refine RW.w (by constructor; omega; omega) rfl ?_ | refine RW.decT (by omega) rfl ?_ | refine RW.decF (by omega) rfl ?_ | refine RW.dec rfl (fun _ => ?_) (fun _ => ?_) | refine RW.p rfl ?_ | refine RW.p0 rfl ?_ | refine RW.ix (by constructor; omega; omega) ?_ | refine RW.ixA (by constructor; omega; omega) ?_ | refine RW.a rfl (fun _ => ?_) | refine RW.u rfl ?_ | refine thenK_n ?_ | refine thenK_ret ?_ | refine thenK_exit ?_ | refine blockK_n ?_ | refine blockK_ret ?_ | refine blockK_same ?_ | refine blockK_other ?_)
  refine RW.callX (sget br 1 (by decide) v xs D _ hv (by omega)) ?_ ?_
  · rintro _ _ ⟨h, rfl, rfl⟩
    have h : numP 1 xs = none := h
    repeat' (first | refine thenK_p ?_ | refine blockK_p ?_ | refine loopK_p ?_ | refine scopeK_p ?_)
    exact bodyK.pnc (A ++ [] ++ B ++ [] ++ E) ⟨by unfold handP; rw [bind_no h], rfl, rfl⟩
  rintro _ _ ⟨v1, n1, xs1, rfl, rfl, hv1, e1, le1, p1, q1⟩
  have e1 : numP 1 xs = some (n1, xs1) := e1
  rw [py1] at q1
  have s1 := hv1.sng
  refine pinOld ?_
  repeat' (first | refine CW.seq ?_ | refine CW.block ?_ | refine CW.skip ?_ | refine CW.exit ?_ | refine CW.ret ?_ | refine CW.regionF (by kernel_rfl) ?_ | refine CW.drawsT mixed (by kernel_rfl) ?_ | refine CW.condT ?_ | refine CW.condF ?_ | refine OW.skip (by rfl) (List.cons_ne_nil _ _) (fun _ => ?_) | refine OW.nil ?_ | refine OW.gT ?_ | refine OW.gF ?_ | refine OW.gF0 ?_ | refine OW.w (by constructor; omega; omega) ?_ | refine OW.decT (by omega) ?_ | refine OW.decF (by omega) ?_ | refine OW.dec (fun _ => ?_) (fun _ => ?_) | refine OW.p ?_ | refine OW.p0 ?_ | refine OW.ix (by constructor; omega; omega) ?_ | refine OW.ixA (by constructor; omega; omega) ?_ | refine OW.a (fun _ => ?_) | refine OW.u ?_ | refine RW.skip (by rfl) (List.cons_ne_nil _ _) (fun _ => ?_) | refine RW.nil ?_ | refine RW.gF ?_ | refine RW.gF0 ?_ | refine RW.w (by constructor; omega; omega) rfl ?_ | refine RW.decT (by omega) rfl ?_ | refine RW.decF (by omega) rfl ?_ | refine RW.dec rfl (fun _ => ?_) (fun _ => ?_) | refine RW.p rfl ?_ | refine RW.p0 rfl ?_ | refine RW.ix (by constructor; omega; omega) ?_ | refine RW.ixA (by constructor; omega; omega) ?_ | refine RW.a rfl (fun _ => ?_) | refine RW.u rfl ?_ | refine thenK_n ?_ | refine thenK_ret ?_ | refine thenK_exit ?_ | refine blockK_n ?_ | refine blockK_ret ?_ | refine blockK_same ?_ | refine blockK_other ?_)
  refine RW.callX (ssmall br v1 xs1 D _ hv1 (by omega)) ?_ ?_
  · rintro _ _ ⟨h, rfl, rfl⟩
    repeat' (first | refine thenK_p ?_ | refine blockK_p ?_ | refine loopK_p ?_ | refine scopeK_p ?_)
    exact bodyK.pnc (A ++ [] ++ B ++ [] ++ E) ⟨by unfold handP; rw [bind_of e1, bind_no h], rfl, rfl⟩
  rintro _ _ ⟨v2, n2, xs2, rfl, rfl, hv2, e2, le2, p2, q2⟩
  have s2 := hv2.sng
  refine pinOld ?_
  repeat' (first | refine CW.seq ?_ | refine CW.block ?_ | refine CW.skip ?_ | refine CW.exit ?_ | refine CW.ret ?_ | refine CW.regionF (by kernel_rfl) ?_ | refine CW.drawsT mixed (by kernel_rfl) ?_ | refine CW.condT ?_ | refine CW.condF ?_ | refine OW.skip (by rfl) (List.cons_ne_nil _ _) (fun _ => ?_) | refine OW.nil ?_ | refine OW.gT ?_ | refine OW.gF ?_ | refine OW.gF0 ?_ | refine OW.w (by constructor; omega; omega) ?_ | refine OW.decT (by omega) ?_ | refine OW.decF (by omega) ?_ | refine OW.dec (fun _ => ?_) (fun _ => ?_) | refine OW.p ?_ | refine OW.p0 ?_ | refine OW.ix (by constructor; omega; omega) ?_ | refine OW.ixA (by constructor; omega; omega) ?_ | refine OW.a (fun _ => ?_) | refine OW.u ?_ | refine RW.skip (by rfl) (List.cons_ne_nil _ _) (fun _ => ?_) | refine RW.nil ?_ | refine RW.gF ?_ | refine RW.gF0 ?_ | refine RW.w (by constructor; omega; omega) rfl ?_ | refine RW.decT (by omega) rfl ?_ | refine RW.decF (by omega) rfl ?_ | refine RW.dec rfl (fun _ => ?_) (fun _ => ?_) | refine RW.p rfl ?_ | refine RW.p0 rfl ?_ | refine RW.ix (by constructor; omega; omega) ?_ | refine RW.ixA (by constructor; omega; omega) ?_ | refine RW.a rfl (fun _ => ?_) | refine RW.u rfl ?_ | refine thenK_n ?_ | refine thenK_ret ?_ | refine thenK_exit ?_ | refine blockK_n ?_ | refine blockK_ret ?_ | refine blockK_same ?_ | refine blockK_other ?_)
  exact bodyK.nrmD ((A ++ [(bo, .cells #[o0, o1, o2, o3, .int .i64 n1, .int .i64 n2, o6, o7, o8, o9, o10, o11, o12] 47 (0, 0))] ++ B ++ [rds br v2] ++ E)) (Res.zero Tryz.results88) ⟨[], v2, n1, n2, xs2, rfl, hv2, by unfold handP; rw [bind_of e1, bind_of e2]; rfl, by omega, ⟨p1, by omega⟩, p2, q2⟩

theorem read_thread (br bo : Nat) (v : Value) (xs : List Int) (D L : Chunk) (o0 o1 o2 o3 o4 o5 o6 o7 o8 o9 o10 o11 o12 : Value) {C : Chunk → Chunk → Chunk} [hat : At2 L [(bo, .cells #[o0, o1, o2, o3, o4, o5, o6, o7, o8, o9, o10, o11, o12] 47 (0, 0))] [rds br v] C] [hD : MemC D (C [] [])] (hv : BS D v xs) (hl : xs.length ≤ 65536) :
    FnP Tryz.prog 92 [.pointer (some ⟨br, 0, none⟩), .pointer (some ⟨bo, 0, none⟩)] L
      (fun _ L' => ∃ N v' a xs', L' = N ++ C [(bo, .cells #[o0, o1, o2, .int .i64 a, o4, o5, o6, o7, o8, o9, o10, o11, o12] 47 (0, 0))] [rds br v'] ∧ BS D v' xs' ∧ numP 1 xs = some (a, xs') ∧ xs'.length ≤ xs.length ∧ 0 ≤ a ∧ a ≤ 255)
      (fun ch L' => numP 1 xs = none ∧ ch = pnc 380 ∧ L' = C [] []) := by
  intro w0; refine Spec.enter2 Tryz.func92 rfl Tryz.ntmps92 (by decide) ?_
  obtain ⟨A, B, E, rfl, hC⟩ := hat.out
  simp only [hC] at hD ⊢
  clear hC hat
  have hDa : ∀ X Y, MemC D (A ++ X ++ B ++ Y ++ E) := fun X Y => ⟨fun p hp => by
    have := hD.out p hp
    simp only [List.append_nil, List.mem_append] at this
    simp only [List.mem_append]
    rcases this with (h | h) | h
    · exact .inl (.inl (.inl (.inl h)))
    · exact .inl (.inl (.inr h))
    · exact .inr h⟩
  repeat' (first | refine CW.seq ?_ | refine CW.block ?_ | refine CW.skip ?_ | refine CW.exit ?_ | refine CW.ret ?_ | refine CW.regionF (by kernel_rfl) ?_ | refine CW.condT ?_ | refine CW.condF ?_ | refine OW.skip (by rfl) (List.cons_ne_nil _ _) (fun _ => ?_) | refine OW.nil ?_ | refine OW.gT ?_ | refine OW.gF ?_ | refine OW.gF0 ?_ | refine OW.w (by constructor; omega; omega) ?_ | refine OW.decT (by omega) ?_ | refine OW.decF (by omega) ?_ | refine OW.dec (fun _ => ?_) (fun _ => ?_) | refine OW.p ?_ | refine OW.p0 ?_ | refine OW.ix (by constructor; omega; omega) ?_ | refine OW.ixA (by constructor; omega; omega) ?_ | refine OW.a (fun _ => ?_) | refine OW.u ?_ | refine thenK_n ?_ | refine thenK_ret ?_ | refine thenK_exit ?_ | refine blockK_n ?_ | refine blockK_ret ?_ | refine blockK_same ?_ | refine blockK_other ?_)
  refine OW.callX (sget br 1 (by decide) v xs D _ hv (by omega)) ?_ ?_
  · rintro _ _ ⟨h, rfl, rfl⟩
    have h : numP 1 xs = none := h
    repeat' (first | refine thenK_p ?_ | refine blockK_p ?_ | refine loopK_p ?_ | refine scopeK_p ?_)
    exact bodyK.pnc (A ++ [] ++ B ++ [] ++ E) ⟨by exact h, rfl, rfl⟩
  rintro _ _ ⟨v1, n1, xs1, rfl, rfl, hv1, e1, le1, p1, q1⟩
  have e1 : numP 1 xs = some (n1, xs1) := e1
  rw [py1] at q1
  have s1 := hv1.sng
  repeat' (first | refine CW.seq ?_ | refine CW.block ?_ | refine CW.skip ?_ | refine CW.exit ?_ | refine CW.ret ?_ | refine CW.regionF (by kernel_rfl) ?_ | refine CW.condT ?_ | refine CW.condF ?_ | refine OW.skip (by rfl) (List.cons_ne_nil _ _) (fun _ => ?_) | refine OW.nil ?_ | refine OW.gT ?_ | refine OW.gF ?_ | refine OW.gF0 ?_ | refine OW.w (by constructor; omega; omega) ?_ | refine OW.decT (by omega) ?_ | refine OW.decF (by omega) ?_ | refine OW.dec (fun _ => ?_) (fun _ => ?_) | refine OW.p ?_ | refine OW.p0 ?_ | refine OW.ix (by constructor; omega; omega) ?_ | refine OW.ixA (by constructor; omega; omega) ?_ | refine OW.a (fun _ => ?_) | refine OW.u ?_ | refine thenK_n ?_ | refine thenK_ret ?_ | refine thenK_exit ?_ | refine blockK_n ?_ | refine blockK_ret ?_ | refine blockK_same ?_ | refine blockK_other ?_)
  exact bodyK.nrmD ((A ++ [(bo, .cells #[o0, o1, o2, .int .i64 n1, o4, o5, o6, o7, o8, o9, o10, o11, o12] 47 (0, 0))] ++ B ++ [rds br v1] ++ E)) (Res.zero Tryz.results92) ⟨[], v1, n1, xs1, rfl, hv1, by exact e1, by omega, p1, by omega⟩

theorem read_draws (br bo : Nat) (v : Value) (xs : List Int) (D L : Chunk) (o0 o1 o2 o3 o4 o5 o6 o7 o8 o9 o10 o11 o12 : Value) {C : Chunk → Chunk → Chunk} [hat : At2 L [(bo, .cells #[o0, o1, o2, o3, o4, o5, o6, o7, o8, o9, o10, o11, o12] 47 (0, 0))] [rds br v] C] [hD : MemC D (C [] [])] (hv : BS D v xs) (hl : xs.length ≤ 65536) :
    FnP Tryz.prog 102 [.pointer (some ⟨br, 0, none⟩), .pointer (some ⟨bo, 0, none⟩)] L
      (fun _ L' => ∃ N v' u a xs', L' = N ++ C [(bo, .cells #[o0, o1, o2, o3, o4, o5, o6, o7, o8, o9, o10, o11, u] 47 (0, 0))] [rds br v'] ∧ BS D v' xs' ∧ drawP xs = some (a, xs') ∧ xs'.length ≤ xs.length ∧ BS N u a)
      (fun ch L' => drawP xs = none ∧ ch = pnc 380 ∧ L' = C [] []) := by
  intro w0; refine Spec.enter2 Tryz.func102 rfl Tryz.ntmps102 (by decide) ?_
  obtain ⟨A, B, E, rfl, hC⟩ := hat.out
  simp only [hC] at hD ⊢
  clear hC hat
  have hDa : ∀ X Y, MemC D (A ++ X ++ B ++ Y ++ E) := fun X Y => ⟨fun p hp => by
    have := hD.out p hp
    simp only [List.append_nil, List.mem_append] at this
    simp only [List.mem_append]
    rcases this with (h | h) | h
    · exact .inl (.inl (.inl (.inl h)))
    · exact .inl (.inl (.inr h))
    · exact .inr h⟩
  repeat' (first | refine CW.seq ?_ | refine CW.block ?_ | refine CW.skip ?_ | refine CW.exit ?_ | refine CW.ret ?_ | refine CW.regionF (by kernel_rfl) ?_ | refine CW.condT ?_ | refine CW.condF ?_ | refine OW.skip (by rfl) (List.cons_ne_nil _ _) (fun _ => ?_) | refine OW.nil ?_ | refine OW.gT ?_ | refine OW.gF ?_ | refine OW.gF0 ?_ | refine OW.w (by constructor; omega; omega) ?_ | refine OW.decT (by omega) ?_ | refine OW.decF (by omega) ?_ | refine OW.dec (fun _ => ?_) (fun _ => ?_) | refine OW.p ?_ | refine OW.p0 ?_ | refine OW.ix (by constructor; omega; omega) ?_ | refine OW.ixA (by constructor; omega; omega) ?_ | refine OW.a (fun _ => ?_) | refine OW.u ?_ | refine RW.skip (by rfl) (List.cons_ne_nil _ _) (fun _ => ?_) | refine RW.nil ?_ | refine RW.gF ?_ | refine RW.gF0 ?_ | refine RW.w (by constructor; omega; omega) rfl ?_ | refine RW.decT (by omega) rfl ?_ | refine RW.decF (by omega) rfl ?_ | refine RW.dec rfl (fun _ => ?_) (fun _ => ?_) | refine RW.p rfl ?_ | refine RW.p0 rfl ?_ | refine RW.ix (by constructor; omega; omega) ?_ | refine RW.ixA (by constructor; omega; omega) ?_ | refine RW.a rfl (fun _ => ?_) | refine RW.u rfl ?_ | refine thenK_n ?_ | refine thenK_ret ?_ | refine thenK_exit ?_ | refine blockK_n ?_ | refine blockK_ret ?_ | refine blockK_same ?_ | refine blockK_other ?_)
  refine CW.drawsR ([]) [0, 1, 2, 3, 4, 5, 6, 7, 8, 9, 10, 11, 12] mixed (by kernel_rfl) ?_
  repeat' (first | refine CW.seq ?_ | refine CW.block ?_ | refine CW.skip ?_ | refine CW.exit ?_ | refine CW.ret ?_ | refine CW.regionF (by kernel_rfl) ?_ | refine CW.drawsT mixed (by kernel_rfl) ?_ | refine CW.condT ?_ | refine CW.condF ?_ | refine OW.skip (by rfl) (List.cons_ne_nil _ _) (fun _ => ?_) | refine OW.nil ?_ | refine OW.gT ?_ | refine OW.gF ?_ | refine OW.gF0 ?_ | refine OW.w (by constructor; omega; omega) ?_ | refine OW.decT (by omega) ?_ | refine OW.decF (by omega) ?_ | refine OW.dec (fun _ => ?_) (fun _ => ?_) | refine OW.p ?_ | refine OW.p0 ?_ | refine OW.ix (by constructor; omega; omega) ?_ | refine OW.ixA (by constructor; omega; omega) ?_ | refine OW.a (fun _ => ?_) | refine OW.u ?_ | refine RW.skip (by rfl) (List.cons_ne_nil _ _) (fun _ => ?_) | refine RW.nil ?_ | refine RW.gF ?_ | refine RW.gF0 ?_ | refine RW.w (by constructor; omega; omega) rfl ?_ | refine RW.decT (by omega) rfl ?_ | refine RW.decF (by omega) rfl ?_ | refine RW.dec rfl (fun _ => ?_) (fun _ => ?_) | refine RW.p rfl ?_ | refine RW.p0 rfl ?_ | refine RW.ix (by constructor; omega; omega) ?_ | refine RW.ixA (by constructor; omega; omega) ?_ | refine RW.a rfl (fun _ => ?_) | refine RW.u rfl ?_ | refine thenK_n ?_ | refine thenK_ret ?_ | refine thenK_exit ?_ | refine blockK_n ?_ | refine blockK_ret ?_ | refine blockK_same ?_ | refine blockK_other ?_)
  refine RW.callX (sget br 1 (by decide) v xs D _ hv (by omega)) ?_ ?_
  · rintro _ _ ⟨h, rfl, rfl⟩
    have h : numP 1 xs = none := h
    repeat' (first | refine thenK_p ?_ | refine blockK_p ?_ | refine loopK_p ?_ | refine scopeK_p ?_)
    exact bodyK.pnc (A ++ [] ++ B ++ [] ++ E) ⟨by unfold drawP; rw [bind_no h], rfl, rfl⟩
  rintro _ _ ⟨v1, n1, xs1, rfl, rfl, hv1, e1, le1, p1, q1⟩
  have e1 : numP 1 xs = some (n1, xs1) := e1
  rw [py1] at q1
  have s1 := hv1.sng
  refine pinOld ?_
  repeat' (first | refine CW.seq ?_ | refine CW.block ?_ | refine CW.skip ?_ | refine CW.exit ?_ | refine CW.ret ?_ | refine CW.regionF (by kernel_rfl) ?_ | refine CW.drawsT mixed (by kernel_rfl) ?_ | refine CW.condT ?_ | refine CW.condF ?_ | refine OW.skip (by rfl) (List.cons_ne_nil _ _) (fun _ => ?_) | refine OW.nil ?_ | refine OW.gT ?_ | refine OW.gF ?_ | refine OW.gF0 ?_ | refine OW.w (by constructor; omega; omega) ?_ | refine OW.decT (by omega) ?_ | refine OW.decF (by omega) ?_ | refine OW.dec (fun _ => ?_) (fun _ => ?_) | refine OW.p ?_ | refine OW.p0 ?_ | refine OW.ix (by constructor; omega; omega) ?_ | refine OW.ixA (by constructor; omega; omega) ?_ | refine OW.a (fun _ => ?_) | refine OW.u ?_ | refine RW.skip (by rfl) (List.cons_ne_nil _ _) (fun _ => ?_) | refine RW.nil ?_ | refine RW.gF ?_ | refine RW.gF0 ?_ | refine RW.w (by constructor; omega; omega) rfl ?_ | refine RW.decT (by omega) rfl ?_ | refine RW.decF (by omega) rfl ?_ | refine RW.dec rfl (fun _ => ?_) (fun _ => ?_) | refine RW.p rfl ?_ | refine RW.p0 rfl ?_ | refine RW.ix (by constructor; omega; omega) ?_ | refine RW.ixA (by constructor; omega; omega) ?_ | refine RW.a rfl (fun _ => ?_) | refine RW.u rfl ?_ | refine thenK_n ?_ | refine thenK_ret ?_ | refine thenK_exit ?_ | refine blockK_n ?_ | refine blockK_ret ?_ | refine blockK_same ?_ | refine blockK_other ?_)
  refine RW.callX (stake br n1 v1 xs1 D _ hv1 (by omega) (by omega)) ?_ ?_
  · rintro _ _ ⟨h, rfl, rfl⟩
    repeat' (first | refine thenK_p ?_ | refine blockK_p ?_ | refine loopK_p ?_ | refine scopeK_p ?_)
    exact bodyK.pnc (A ++ [] ++ B ++ [] ++ E) ⟨by unfold drawP; rw [bind_of e1, h], rfl, rfl⟩
  rintro u _ ⟨N, v2, a, xs2, rfl, hu, hv2, e2, le2, la⟩
  have s2 := hv2.sng
  have su := hu.sng
  refine pinOld ?_
  repeat' (first | refine CW.seq ?_ | refine CW.block ?_ | refine CW.skip ?_ | refine CW.exit ?_ | refine CW.ret ?_ | refine CW.regionF (by kernel_rfl) ?_ | refine CW.drawsT mixed (by kernel_rfl) ?_ | refine CW.condT ?_ | refine CW.condF ?_ | refine OW.skip (by rfl) (List.cons_ne_nil _ _) (fun _ => ?_) | refine OW.nil ?_ | refine OW.gT ?_ | refine OW.gF ?_ | refine OW.gF0 ?_ | refine OW.w (by constructor; omega; omega) ?_ | refine OW.decT (by omega) ?_ | refine OW.decF (by omega) ?_ | refine OW.dec (fun _ => ?_) (fun _ => ?_) | refine OW.p ?_ | refine OW.p0 ?_ | refine OW.ix (by constructor; omega; omega) ?_ | refine OW.ixA (by constructor; omega; omega) ?_ | refine OW.a (fun _ => ?_) | refine OW.u ?_ | refine RW.skip (by rfl) (List.cons_ne_nil _ _) (fun _ => ?_) | refine RW.nil ?_ | refine RW.gF ?_ | refine RW.gF0 ?_ | refine RW.w (by constructor; omega; omega) rfl ?_ | refine RW.decT (by omega) rfl ?_ | refine RW.decF (by omega) rfl ?_ | refine RW.dec rfl (fun _ => ?_) (fun _ => ?_) | refine RW.p rfl ?_ | refine RW.p0 rfl ?_ | refine RW.ix (by constructor; omega; omega) ?_ | refine RW.ixA (by constructor; omega; omega) ?_ | refine RW.a rfl (fun _ => ?_) | refine RW.u rfl ?_ | refine thenK_n ?_ | refine thenK_ret ?_ | refine thenK_exit ?_ | refine blockK_n ?_ | refine blockK_ret ?_ | refine blockK_same ?_ | refine blockK_other ?_)
  exact bodyK.nrmD (N ++ (A ++ [(bo, .cells #[o0, o1, o2, o3, o4, o5, o6, o7, o8, o9, o10, o11, u] 47 (0, 0))] ++ B ++ [rds br v2] ++ E)) (Res.zero Tryz.results102) ⟨N, v2, u, a, xs2, rfl, hv2, by unfold drawP; rw [bind_of e1, e2], by omega, hu⟩

theorem read_call (br bo : Nat) (v : Value) (xs : List Int) (D L : Chunk) (o0 o1 o2 o3 o4 o5 o6 o7 o8 o9 o10 o11 o12 : Value) {C : Chunk → Chunk → Chunk} [hat : At2 L [(bo, .cells #[o0, o1, o2, o3, o4, o5, o6, o7, o8, o9, o10, o11, o12] 47 (0, 0))] [rds br v] C] [hD : MemC D (C [] [])] (hv : BS D v xs) (hl : xs.length ≤ 65536) :
    FnP Tryz.prog 97 [.pointer (some ⟨br, 0, none⟩), .pointer (some ⟨bo, 0, none⟩)] L
      (fun _ L' => ∃ N v' o u xs', L' = N ++ C [(bo, .cells #[o0, o1, o2, o3, o4, o5, .int .i64 o.okind, .int .u32 o.oat, .int .u64 o.osize, .int .u64 o.omult, .int .u64 o.omany, u, o12] 47 (0, 0))] [rds br v'] ∧ BS D v' xs' ∧ opP xs = some (o, xs') ∧ xs'.length ≤ xs.length ∧ (0 ≤ o.okind ∧ o.okind ≤ 255) ∧ inR .u32 o.oat ∧ inR .u64 o.osize ∧ inR .u64 o.omult ∧ inR .u64 o.omany ∧ BS N u o.obytes)
      (fun ch L' => opP xs = none ∧ ch = pnc 380 ∧ L' = C [] []) := by
  intro w0; refine Spec.enter2 Tryz.func97 rfl Tryz.ntmps97 (by decide) ?_
  obtain ⟨A, B, E, rfl, hC⟩ := hat.out
  simp only [hC] at hD ⊢
  clear hC hat
  have hDa : ∀ X Y, MemC D (A ++ X ++ B ++ Y ++ E) := fun X Y => ⟨fun p hp => by
    have := hD.out p hp
    simp only [List.append_nil, List.mem_append] at this
    simp only [List.mem_append]
    rcases this with (h | h) | h
    · exact .inl (.inl (.inl (.inl h)))
    · exact .inl (.inl (.inr h))
    · exact .inr h⟩
  repeat' (first | refine CW.seq ?_ | refine CW.block ?_ | refine CW.skip ?_ | refine CW.exit ?_ | refine CW.ret ?_ | refine CW.regionF (by kernel_rfl) ?_ | refine CW.drawsT mixed (by kernel_rfl) ?_ | refine CW.condT ?_ | refine CW.condF ?_ | refine OW.skip (by rfl) (List.cons_ne_nil _ _) (fun _ => ?_) | refine OW.nil ?_ | refine OW.gT ?_ | refine OW.gF ?_ | refine OW.gF0 ?_ | refine OW.w (by constructor; omega; omega) ?_ | refine OW.decT (by omega) ?_ | refine OW.decF (by omega) ?_ | refine OW.dec (fun _ => ?_) (fun _ => ?_) | refine OW.p ?_ | refine OW.p0 ?_ | refine OW.ix (by constructor; omega; omega) ?_ | refine OW.ixA (by constructor; omega; omega) ?_ | refine OW.a (fun _ => ?_) | refine OW.u ?_ | refine RW.skip (by rfl) (List.cons_ne_nil _ _) (fun _ => ?_) | refine RW.nil ?_ | refine RW.gF ?_ | refine RW.gF0 ?_ | refine RW.w (by constructor; omega; omega) rfl ?_ | refine RW.decT (by omega) rfl ?_ | refine RW.decF (by omega) rfl ?_ | refine RW.dec rfl (fun _ => ?_) (fun _ => ?_) | refine RW.p rfl ?_ | refine RW.p0 rfl ?_ | refine RW.ix (by constructor; omega; omega) ?_ | refine RW.ixA (by constructor; omega; omega) ?_ | refine RW.a rfl (fun _ => ?_) | refine RW.u rfl ?_ | refine thenK_n ?_ | refine thenK_ret ?_ | refine thenK_exit ?_ | refine blockK_n ?_ | refine blockK_ret ?_ | refine blockK_same ?_ | refine blockK_other ?_ | refine loopK_n ?_ | refine loopK_ret ?_ | refine loopK_exit ?_)
  refine OW.callX (sget br 1 (by decide) v xs D _ hv (by omega)) ?_ ?_
  · rintro _ _ ⟨h, rfl, rfl⟩
    have h : numP 1 xs = none := h
    repeat' (first | refine thenK_p ?_ | refine blockK_p ?_ | refine loopK_p ?_ | refine scopeK_p ?_)
    exact bodyK.pnc (A ++ [] ++ B ++ [] ++ E) ⟨by unfold opP; rw [bind_no h], rfl, rfl⟩
  rintro _ _ ⟨v1, n1, xs1, rfl, rfl, hv1, e1, le1, p1, q1⟩
  have e1 : numP 1 xs = some (n1, xs1) := e1
  rw [py1] at q1
  have s1 := hv1.sng
  repeat' (first | refine CW.seq ?_ | refine CW.block ?_ | refine CW.skip ?_ | refine CW.exit ?_ | refine CW.ret ?_ | refine CW.regionF (by kernel_rfl) ?_ | refine CW.drawsT mixed (by kernel_rfl) ?_ | refine CW.condT ?_ | refine CW.condF ?_ | refine OW.skip (by rfl) (List.cons_ne_nil _ _) (fun _ => ?_) | refine OW.nil ?_ | refine OW.gT ?_ | refine OW.gF ?_ | refine OW.gF0 ?_ | refine OW.w (by constructor; omega; omega) ?_ | refine OW.decT (by omega) ?_ | refine OW.decF (by omega) ?_ | refine OW.dec (fun _ => ?_) (fun _ => ?_) | refine OW.p ?_ | refine OW.p0 ?_ | refine OW.ix (by constructor; omega; omega) ?_ | refine OW.ixA (by constructor; omega; omega) ?_ | refine OW.a (fun _ => ?_) | refine OW.u ?_ | refine RW.skip (by rfl) (List.cons_ne_nil _ _) (fun _ => ?_) | refine RW.nil ?_ | refine RW.gF ?_ | refine RW.gF0 ?_ | refine RW.w (by constructor; omega; omega) rfl ?_ | refine RW.decT (by omega) rfl ?_ | refine RW.decF (by omega) rfl ?_ | refine RW.dec rfl (fun _ => ?_) (fun _ => ?_) | refine RW.p rfl ?_ | refine RW.p0 rfl ?_ | refine RW.ix (by constructor; omega; omega) ?_ | refine RW.ixA (by constructor; omega; omega) ?_ | refine RW.a rfl (fun _ => ?_) | refine RW.u rfl ?_ | refine thenK_n ?_ | refine thenK_ret ?_ | refine thenK_exit ?_ | refine blockK_n ?_ | refine blockK_ret ?_ | refine blockK_same ?_ | refine blockK_other ?_ | refine loopK_n ?_ | refine loopK_ret ?_ | refine loopK_exit ?_)
  refine OW.callX (sget br 4 (by decide) v1 xs1 D _ hv1 (by omega)) ?_ ?_
  · rintro _ _ ⟨h, rfl, rfl⟩
    have h : numP 4 xs1 = none := h
    repeat' (first | refine thenK_p ?_ | refine blockK_p ?_ | refine loopK_p ?_ | refine scopeK_p ?_)
    exact bodyK.pnc (A ++ [] ++ B ++ [] ++ E) ⟨by unfold opP; rw [bind_of e1, bind_no h], rfl, rfl⟩
  rintro _ _ ⟨v2, n2, xs2, rfl, rfl, hv2, e2, le2, p2, q2⟩
  have e2 : numP 4 xs1 = some (n2, xs2) := e2
  rw [py4] at q2
  have s2 := hv2.sng
  repeat' (first | refine CW.seq ?_ | refine CW.block ?_ | refine CW.skip ?_ | refine CW.exit ?_ | refine CW.ret ?_ | refine CW.regionF (by kernel_rfl) ?_ | refine CW.condT ?_ | refine CW.condF ?_ | refine OW.skip (by rfl) (List.cons_ne_nil _ _) (fun _ => ?_) | refine OW.nil ?_ | refine OW.gT ?_ | refine OW.gF ?_ | refine OW.gF0 ?_ | refine OW.w (by constructor; omega; omega) ?_ | refine OW.decT (by omega) ?_ | refine OW.decF (by omega) ?_ | refine OW.dec (fun _ => ?_) (fun _ => ?_) | refine OW.p ?_ | refine OW.p0 ?_ | refine OW.ix (by constructor; omega; omega) ?_ | refine OW.ixA (by constructor; omega; omega) ?_ | refine OW.a (fun _ => ?_) | refine OW.u ?_ | refine RW.skip (by rfl) (List.cons_ne_nil _ _) (fun _ => ?_) | refine RW.nil ?_ | refine RW.gF ?_ | refine RW.gF0 ?_ | refine RW.w (by constructor; omega; omega) rfl ?_ | refine RW.decT (by omega) rfl ?_ | refine RW.decF (by omega) rfl ?_ | refine RW.dec rfl (fun _ => ?_) (fun _ => ?_) | refine RW.p rfl ?_ | refine RW.p0 rfl ?_ | refine RW.ix (by constructor; omega; omega) ?_ | refine RW.ixA (by constructor; omega; omega) ?_ | refine RW.a rfl (fun _ => ?_) | refine RW.u rfl ?_ | refine thenK_n ?_ | refine thenK_ret ?_ | refine thenK_exit ?_ | refine blockK_n ?_ | refine blockK_ret ?_ | refine blockK_same ?_ | refine blockK_other ?_ | refine loopK_n ?_ | refine loopK_ret ?_ | refine loopK_exit ?_)
  refine CW.drawsR ([]) [0, 1, 2, 3, 4, 5, 6, 7, 8, 11, 9, 10] mixed (by kernel_rfl) ?_
  repeat' (first | refine CW.seq ?_ | refine CW.block ?_ | refine CW.skip ?_ | refine CW.exit ?_ | refine CW.ret ?_ | refine CW.regionF (by kernel_rfl) ?_ | refine CW.drawsT mixed (by kernel_rfl) ?_ | refine CW.condT ?_ | refine CW.condF ?_ | refine OW.skip (by rfl) (List.cons_ne_nil _ _) (fun _ => ?_) | refine OW.nil ?_ | refine OW.gT ?_ | refine OW.gF ?_ | refine OW.gF0 ?_ | refine OW.w (by constructor; omega; omega) ?_ | refine OW.decT (by omega) ?_ | refine OW.decF (by omega) ?_ | refine OW.dec (fun _ => ?_) (fun _ => ?_) | refine OW.p ?_ | refine OW.p0 ?_ | refine OW.ix (by constructor; omega; omega) ?_ | refine OW.ixA (by constructor; omega; omega) ?_ | refine OW.a (fun _ => ?_) | refine OW.u ?_ | refine RW.skip (by rfl) (List.cons_ne_nil _ _) (fun _ => ?_) | refine RW.nil ?_ | refine RW.gF ?_ | refine RW.gF0 ?_ | refine RW.w (by constructor; omega; omega) rfl ?_ | refine RW.decT (by omega) rfl ?_ | refine RW.decF (by omega) rfl ?_ | refine RW.dec rfl (fun _ => ?_) (fun _ => ?_) | refine RW.p rfl ?_ | refine RW.p0 rfl ?_ | refine RW.ix (by constructor; omega; omega) ?_ | refine RW.ixA (by constructor; omega; omega) ?_ | refine RW.a rfl (fun _ => ?_) | refine RW.u rfl ?_ | refine thenK_n ?_ | refine thenK_ret ?_ | refine thenK_exit ?_ | refine blockK_n ?_ | refine blockK_ret ?_ | refine blockK_same ?_ | refine blockK_other ?_ | refine loopK_n ?_ | refine loopK_ret ?_ | refine loopK_exit ?_)
  rename_i bs
  refine CW.loopU 4 ?_
  repeat' (first | refine CW.seq ?_ | refine CW.block ?_ | refine CW.skip ?_ | refine CW.exit ?_ | refine CW.ret ?_ | refine CW.regionF (by kernel_rfl) ?_ | refine CW.condT ?_ | refine CW.condF ?_ | refine OW.skip (by rfl) (List.cons_ne_nil _ _) (fun _ => ?_) | refine OW.nil ?_ | refine OW.gT ?_ | refine OW.gF ?_ | refine OW.gF0 ?_ | refine OW.w (by constructor; omega; omega) ?_ | refine OW.decT (by omega) ?_ | refine OW.decF (by omega) ?_ | refine OW.dec (fun _ => ?_) (fun _ => ?_) | refine OW.p ?_ | refine OW.p0 ?_ | refine OW.ix (by constructor; omega; omega) ?_ | refine OW.ixA (by constructor; omega; omega) ?_ | refine OW.a (fun _ => ?_) | refine OW.u ?_ | refine RW.skip (by rfl) (List.cons_ne_nil _ _) (fun _ => ?_) | refine RW.nil ?_ | refine RW.gF ?_ | refine RW.gF0 ?_ | refine RW.w (by constructor; omega; omega) rfl ?_ | refine RW.decT (by omega) rfl ?_ | refine RW.decF (by omega) rfl ?_ | refine RW.dec rfl (fun _ => ?_) (fun _ => ?_) | refine RW.p rfl ?_ | refine RW.p0 rfl ?_ | refine RW.ix (by constructor; omega; omega) ?_ | refine RW.ixA (by constructor; omega; omega) ?_ | refine RW.a rfl (fun _ => ?_) | refine RW.u rfl ?_ | refine thenK_n ?_ | refine thenK_ret ?_ | refine thenK_exit ?_ | refine blockK_n ?_ | refine blockK_ret ?_ | refine blockK_same ?_ | refine blockK_other ?_ | refine loopK_n ?_ | refine loopK_ret ?_ | refine loopK_exit ?_)
  refine OW.callX (sget br 8 (by decide) v2 xs2 D _ hv2 (by omega)) ?_ ?_
  · rintro _ _ ⟨h, rfl, rfl⟩
    have h : numP 8 xs2 = none := h
    repeat' (first | refine thenK_p ?_ | refine blockK_p ?_ | refine loopK_p ?_ | refine scopeK_p ?_)
    exact bodyK.pnc (A ++ [] ++ B ++ [] ++ E) ⟨by unfold opP; rw [bind_of e1, bind_of e2, bind_no h], rfl, rfl⟩
  rintro _ _ ⟨v3, n3, xs3, rfl, rfl, hv3, e3, le3, p3, q3⟩
  have e3 : numP 8 xs2 = some (n3, xs3) := e3
  rw [py8] at q3
  have s3 := hv3.sng
  repeat' (first | refine CW.seq ?_ | refine CW.block ?_ | refine CW.skip ?_ | refine CW.exit ?_ | refine CW.ret ?_ | refine CW.regionF (by kernel_rfl) ?_ | refine CW.condT ?_ | refine CW.condF ?_ | refine OW.skip (by rfl) (List.cons_ne_nil _ _) (fun _ => ?_) | refine OW.nil ?_ | refine OW.gT ?_ | refine OW.gF ?_ | refine OW.gF0 ?_ | refine OW.w (by constructor; omega; omega) ?_ | refine OW.decT (by omega) ?_ | refine OW.decF (by omega) ?_ | refine OW.dec (fun _ => ?_) (fun _ => ?_) | refine OW.p ?_ | refine OW.p0 ?_ | refine OW.ix (by constructor; omega; omega) ?_ | refine OW.ixA (by constructor; omega; omega) ?_ | refine OW.a (fun _ => ?_) | refine OW.u ?_ | refine RW.skip (by rfl) (List.cons_ne_nil _ _) (fun _ => ?_) | refine RW.nil ?_ | refine RW.gF ?_ | refine RW.gF0 ?_ | refine RW.w (by constructor; omega; omega) rfl ?_ | refine RW.decT (by omega) rfl ?_ | refine RW.decF (by omega) rfl ?_ | refine RW.dec rfl (fun _ => ?_) (fun _ => ?_) | refine RW.p rfl ?_ | refine RW.p0 rfl ?_ | refine RW.ix (by constructor; omega; omega) ?_ | refine RW.ixA (by constructor; omega; omega) ?_ | refine RW.a rfl (fun _ => ?_) | refine RW.u rfl ?_ | refine thenK_n ?_ | refine thenK_ret ?_ | refine thenK_exit ?_ | refine blockK_n ?_ | refine blockK_ret ?_ | refine blockK_same ?_ | refine blockK_other ?_ | refine loopK_n ?_ | refine loopK_ret ?_ | refine loopK_exit ?_)
  rw [show ((0 : Int) + 1).toNat = 1 from rfl]
  repeat' (first | refine CW.seq ?_ | refine CW.block ?_ | refine CW.skip ?_ | refine CW.exit ?_ | refine CW.ret ?_ | refine CW.regionF (by kernel_rfl) ?_ | refine CW.condT ?_ | refine CW.condF ?_ | refine OW.skip (by rfl) (List.cons_ne_nil _ _) (fun _ => ?_) | refine OW.nil ?_ | refine OW.gT ?_ | refine OW.gF ?_ | refine OW.gF0 ?_ | refine OW.w (by constructor; omega; omega) ?_ | refine OW.decT (by omega) ?_ | refine OW.decF (by omega) ?_ | refine OW.dec (fun _ => ?_) (fun _ => ?_) | refine OW.p ?_ | refine OW.p0 ?_ | refine OW.ix (by constructor; omega; omega) ?_ | refine OW.ixA (by constructor; omega; omega) ?_ | refine OW.a (fun _ => ?_) | refine OW.u ?_ | refine RW.skip (by rfl) (List.cons_ne_nil _ _) (fun _ => ?_) | refine RW.nil ?_ | refine RW.gF ?_ | refine RW.gF0 ?_ | refine RW.w (by constructor; omega; omega) rfl ?_ | refine RW.decT (by omega) rfl ?_ | refine RW.decF (by omega) rfl ?_ | refine RW.dec rfl (fun _ => ?_) (fun _ => ?_) | refine RW.p rfl ?_ | refine RW.p0 rfl ?_ | refine RW.ix (by constructor; omega; omega) ?_ | refine RW.ixA (by constructor; omega; omega) ?_ | refine RW.a rfl (fun _ => ?_) | refine RW.u rfl ?_ | refine thenK_n ?_ | refine thenK_ret ?_ | refine thenK_exit ?_ | refine blockK_n ?_ | refine blockK_ret ?_ | refine blockK_same ?_ | refine blockK_other ?_ | refine loopK_n ?_ | refine loopK_ret ?_ | refine loopK_exit ?_)
  refine OW.callX (sget br 8 (by decide) v3 xs3 D _ hv3 (by omega)) ?_ ?_
  · rintro _ _ ⟨h, rfl, rfl⟩
    have h : numP 8 xs3 = none := h
    repeat' (first | refine thenK_p ?_ | refine blockK_p ?_ | refine loopK_p ?_ | refine scopeK_p ?_)
    exact bodyK.pnc (A ++ [] ++ B ++ [] ++ E) ⟨by unfold opP; rw [bind_of e1, bind_of e2, bind_of e3, bind_no h], rfl, rfl⟩
  rintro _ _ ⟨v4, n4, xs4, rfl, rfl, hv4, e4, le4, p4, q4⟩
  have e4 : numP 8 xs3 = some (n4, xs4) := e4
  rw [py8] at q4
  have s4 := hv4.sng
  repeat' (first | refine CW.seq ?_ | refine CW.block ?_ | refine CW.skip ?_ | refine CW.exit ?_ | refine CW.ret ?_ | refine CW.regionF (by kernel_rfl) ?_ | refine CW.condT ?_ | refine CW.condF ?_ | refine OW.skip (by rfl) (List.cons_ne_nil _ _) (fun _ => ?_) | refine OW.nil ?_ | refine OW.gT ?_ | refine OW.gF ?_ | refine OW.gF0 ?_ | refine OW.w (by constructor; omega; omega) ?_ | refine OW.decT (by omega) ?_ | refine OW.decF (by omega) ?_ | refine OW.dec (fun _ => ?_) (fun _ => ?_) | refine OW.p ?_ | refine OW.p0 ?_ | refine OW.ix (by constructor; omega; omega) ?_ | refine OW.ixA (by constructor; omega; omega) ?_ | refine OW.a (fun _ => ?_) | refine OW.u ?_ | refine RW.skip (by rfl) (List.cons_ne_nil _ _) (fun _ => ?_) | refine RW.nil ?_ | refine RW.gF ?_ | refine RW.gF0 ?_ | refine RW.w (by constructor; omega; omega) rfl ?_ | refine RW.decT (by omega) rfl ?_ | refine RW.decF (by omega) rfl ?_ | refine RW.dec rfl (fun _ => ?_) (fun _ => ?_) | refine RW.p rfl ?_ | refine RW.p0 rfl ?_ | refine RW.ix (by constructor; omega; omega) ?_ | refine RW.ixA (by constructor; omega; omega) ?_ | refine RW.a rfl (fun _ => ?_) | refine RW.u rfl ?_ | refine thenK_n ?_ | refine thenK_ret ?_ | refine thenK_exit ?_ | refine blockK_n ?_ | refine blockK_ret ?_ | refine blockK_same ?_ | refine blockK_other ?_ | refine loopK_n ?_ | refine loopK_ret ?_ | refine loopK_exit ?_)
  rw [show ((0 : Int) + 1 + 1).toNat = 2 from rfl]
  repeat' (first | refine CW.seq ?_ | refine CW.block ?_ | refine CW.skip ?_ | refine CW.exit ?_ | refine CW.ret ?_ | refine CW.regionF (by kernel_rfl) ?_ | refine CW.condT ?_ | refine CW.condF ?_ | refine OW.skip (by rfl) (List.cons_ne_nil _ _) (fun _ => ?_) | refine OW.nil ?_ | refine OW.gT ?_ | refine OW.gF ?_ | refine OW.gF0 ?_ | refine OW.w (by constructor; omega; omega) ?_ | refine OW.decT (by omega) ?_ | refine OW.decF (by omega) ?_ | refine OW.dec (fun _ => ?_) (fun _ => ?_) | refine OW.p ?_ | refine OW.p0 ?_ | refine OW.ix (by constructor; omega; omega) ?_ | refine OW.ixA (by constructor; omega; omega) ?_ | refine OW.a (fun _ => ?_) | refine OW.u ?_ | refine RW.skip (by rfl) (List.cons_ne_nil _ _) (fun _ => ?_) | refine RW.nil ?_ | refine RW.gF ?_ | refine RW.gF0 ?_ | refine RW.w (by constructor; omega; omega) rfl ?_ | refine RW.decT (by omega) rfl ?_ | refine RW.decF (by omega) rfl ?_ | refine RW.dec rfl (fun _ => ?_) (fun _ => ?_) | refine RW.p rfl ?_ | refine RW.p0 rfl ?_ | refine RW.ix (by constructor; omega; omega) ?_ | refine RW.ixA (by constructor; omega; omega) ?_ | refine RW.a rfl (fun _ => ?_) | refine RW.u rfl ?_ | refine thenK_n ?_ | refine thenK_ret ?_ | refine thenK_exit ?_ | refine blockK_n ?_ | refine blockK_ret ?_ | refine blockK_same ?_ | refine blockK_other ?_ | refine loopK_n ?_ | refine loopK_ret ?_ | refine loopK_exit ?_)
  refine OW.callX (sget br 8 (by decide) v4 xs4 D _ hv4 (by omega)) ?_ ?_
  · rintro _ _ ⟨h, rfl, rfl⟩
    have h : numP 8 xs4 = none := h
    repeat' (first | refine thenK_p ?_ | refine blockK_p ?_ | refine loopK_p ?_ | refine scopeK_p ?_)
    exact bodyK.pnc (A ++ [] ++ B ++ [] ++ E) ⟨by unfold opP; rw [bind_of e1, bind_of e2, bind_of e3, bind_of e4, bind_no h], rfl, rfl⟩
  rintro _ _ ⟨v5, n5, xs5, rfl, rfl, hv5, e5, le5, p5, q5⟩
  have e5 : numP 8 xs4 = some (n5, xs5) := e5
  rw [py8] at q5
  have s5 := hv5.sng
  repeat' (first | refine CW.seq ?_ | refine CW.block ?_ | refine CW.skip ?_ | refine CW.exit ?_ | refine CW.ret ?_ | refine CW.regionF (by kernel_rfl) ?_ | refine CW.condT ?_ | refine CW.condF ?_ | refine OW.skip (by rfl) (List.cons_ne_nil _ _) (fun _ => ?_) | refine OW.nil ?_ | refine OW.gT ?_ | refine OW.gF ?_ | refine OW.gF0 ?_ | refine OW.w (by constructor; omega; omega) ?_ | refine OW.decT (by omega) ?_ | refine OW.decF (by omega) ?_ | refine OW.dec (fun _ => ?_) (fun _ => ?_) | refine OW.p ?_ | refine OW.p0 ?_ | refine OW.ix (by constructor; omega; omega) ?_ | refine OW.ixA (by constructor; omega; omega) ?_ | refine OW.a (fun _ => ?_) | refine OW.u ?_ | refine RW.skip (by rfl) (List.cons_ne_nil _ _) (fun _ => ?_) | refine RW.nil ?_ | refine RW.gF ?_ | refine RW.gF0 ?_ | refine RW.w (by constructor; omega; omega) rfl ?_ | refine RW.decT (by omega) rfl ?_ | refine RW.decF (by omega) rfl ?_ | refine RW.dec rfl (fun _ => ?_) (fun _ => ?_) | refine RW.p rfl ?_ | refine RW.p0 rfl ?_ | refine RW.ix (by constructor; omega; omega) ?_ | refine RW.ixA (by constructor; omega; omega) ?_ | refine RW.a rfl (fun _ => ?_) | refine RW.u rfl ?_ | refine thenK_n ?_ | refine thenK_ret ?_ | refine thenK_exit ?_ | refine blockK_n ?_ | refine blockK_ret ?_ | refine blockK_same ?_ | refine blockK_other ?_ | refine loopK_n ?_ | refine loopK_ret ?_ | refine loopK_exit ?_)
  refine CW.drawsR ([]) [0, 1, 2, 3, 4, 5, 6, 7, 8, 9, 10, 11, 12] mixed (by kernel_rfl) ?_
  repeat' (first | refine CW.seq ?_ | refine CW.block ?_ | refine CW.skip ?_ | refine CW.exit ?_ | refine CW.ret ?_ | refine CW.regionF (by kernel_rfl) ?_ | refine CW.drawsT mixed (by kernel_rfl) ?_ | refine CW.condT ?_ | refine CW.condF ?_ | refine OW.skip (by rfl) (List.cons_ne_nil _ _) (fun _ => ?_) | refine OW.nil ?_ | refine OW.gT ?_ | refine OW.gF ?_ | refine OW.gF0 ?_ | refine OW.w (by constructor; omega; omega) ?_ | refine OW.decT (by omega) ?_ | refine OW.decF (by omega) ?_ | refine OW.dec (fun _ => ?_) (fun _ => ?_) | refine OW.p ?_ | refine OW.p0 ?_ | refine OW.ix (by constructor; omega; omega) ?_ | refine OW.ixA (by constructor; omega; omega) ?_ | refine OW.a (fun _ => ?_) | refine OW.u ?_ | refine RW.skip (by rfl) (List.cons_ne_nil _ _) (fun _ => ?_) | refine RW.nil ?_ | refine RW.gF ?_ | refine RW.gF0 ?_ | refine RW.w (by constructor; omega; omega) rfl ?_ | refine RW.decT (by omega) rfl ?_ | refine RW.decF (by omega) rfl ?_ | refine RW.dec rfl (fun _ => ?_) (fun _ => ?_) | refine RW.p rfl ?_ | refine RW.p0 rfl ?_ | refine RW.ix (by constructor; omega; omega) ?_ | refine RW.ixA (by constructor; omega; omega) ?_ | refine RW.a rfl (fun _ => ?_) | refine RW.u rfl ?_ | refine thenK_n ?_ | refine thenK_ret ?_ | refine thenK_exit ?_ | refine blockK_n ?_ | refine blockK_ret ?_ | refine blockK_same ?_ | refine blockK_other ?_ | refine loopK_n ?_ | refine loopK_ret ?_ | refine loopK_exit ?_)
  refine RW.callX (sget br 2 (by decide) v5 xs5 D _ hv5 (by omega)) ?_ ?_
  · rintro _ _ ⟨h, rfl, rfl⟩
    have h : numP 2 xs5 = none := h
    repeat' (first | refine thenK_p ?_ | refine blockK_p ?_ | refine loopK_p ?_ | refine scopeK_p ?_)
    exact bodyK.pnc (A ++ [] ++ B ++ [] ++ E) ⟨by unfold opP; rw [bind_of e1, bind_of e2, bind_of e3, bind_of e4, bind_of e5, bind_no h], rfl, rfl⟩
  rintro _ _ ⟨v6, n6, xs6, rfl, rfl, hv6, e6, le6, p6, q6⟩
  have e6 : numP 2 xs5 = some (n6, xs6) := e6
  rw [py2] at q6
  have s6 := hv6.sng
  refine pinOld ?_
  repeat' (first | refine CW.seq ?_ | refine CW.block ?_ | refine CW.skip ?_ | refine CW.exit ?_ | refine CW.ret ?_ | refine CW.regionF (by kernel_rfl) ?_ | refine CW.drawsT mixed (by kernel_rfl) ?_ | refine CW.condT ?_ | refine CW.condF ?_ | refine OW.skip (by rfl) (List.cons_ne_nil _ _) (fun _ => ?_) | refine OW.nil ?_ | refine OW.gT ?_ | refine OW.gF ?_ | refine OW.gF0 ?_ | refine OW.w (by constructor; omega; omega) ?_ | refine OW.decT (by omega) ?_ | refine OW.decF (by omega) ?_ | refine OW.dec (fun _ => ?_) (fun _ => ?_) | refine OW.p ?_ | refine OW.p0 ?_ | refine OW.ix (by constructor; omega; omega) ?_ | refine OW.ixA (by constructor; omega; omega) ?_ | refine OW.a (fun _ => ?_) | refine OW.u ?_ | refine RW.skip (by rfl) (List.cons_ne_nil _ _) (fun _ => ?_) | refine RW.nil ?_ | refine RW.gF ?_ | refine RW.gF0 ?_ | refine RW.w (by constructor; omega; omega) rfl ?_ | refine RW.decT (by omega) rfl ?_ | refine RW.decF (by omega) rfl ?_ | refine RW.dec rfl (fun _ => ?_) (fun _ => ?_) | refine RW.p rfl ?_ | refine RW.p0 rfl ?_ | refine RW.ix (by constructor; omega; omega) ?_ | refine RW.ixA (by constructor; omega; omega) ?_ | refine RW.a rfl (fun _ => ?_) | refine RW.u rfl ?_ | refine thenK_n ?_ | refine thenK_ret ?_ | refine thenK_exit ?_ | refine blockK_n ?_ | refine blockK_ret ?_ | refine blockK_same ?_ | refine blockK_other ?_ | refine loopK_n ?_ | refine loopK_ret ?_ | refine loopK_exit ?_)
  refine RW.callX (stake br n6 v6 xs6 D _ hv6 (by omega) (by omega)) ?_ ?_
  · rintro _ _ ⟨h, rfl, rfl⟩
    repeat' (first | refine thenK_p ?_ | refine blockK_p ?_ | refine loopK_p ?_ | refine scopeK_p ?_)
    exact bodyK.pnc (A ++ [] ++ B ++ [] ++ E) ⟨by unfold opP; rw [bind_of e1, bind_of e2, bind_of e3, bind_of e4, bind_of e5, bind_of e6, bind_no h], rfl, rfl⟩
  rintro u _ ⟨N, v7, a, xs7, rfl, hu, hv7, e7, le7, la⟩
  have s7 := hv7.sng
  have su := hu.sng
  refine pinOld ?_
  repeat' (first | refine CW.seq ?_ | refine CW.block ?_ | refine CW.skip ?_ | refine CW.exit ?_ | refine CW.ret ?_ | refine CW.regionF (by kernel_rfl) ?_ | refine CW.drawsT mixed (by kernel_rfl) ?_ | refine CW.condT ?_ | refine CW.condF ?_ | refine OW.skip (by rfl) (List.cons_ne_nil _ _) (fun _ => ?_) | refine OW.nil ?_ | refine OW.gT ?_ | refine OW.gF ?_ | refine OW.gF0 ?_ | refine OW.w (by constructor; omega; omega) ?_ | refine OW.decT (by omega) ?_ | refine OW.decF (by omega) ?_ | refine OW.dec (fun _ => ?_) (fun _ => ?_) | refine OW.p ?_ | refine OW.p0 ?_ | refine OW.ix (by constructor; omega; omega) ?_ | refine OW.ixA (by constructor; omega; omega) ?_ | refine OW.a (fun _ => ?_) | refine OW.u ?_ | refine RW.skip (by rfl) (List.cons_ne_nil _ _) (fun _ => ?_) | refine RW.nil ?_ | refine RW.gF ?_ | refine RW.gF0 ?_ | refine RW.w (by constructor; omega; omega) rfl ?_ | refine RW.decT (by omega) rfl ?_ | refine RW.decF (by omega) rfl ?_ | refine RW.dec rfl (fun _ => ?_) (fun _ => ?_) | refine RW.p rfl ?_ | refine RW.p0 rfl ?_ | refine RW.ix (by constructor; omega; omega) ?_ | refine RW.ixA (by constructor; omega; omega) ?_ | refine RW.a rfl (fun _ => ?_) | refine RW.u rfl ?_ | refine thenK_n ?_ | refine thenK_ret ?_ | refine thenK_exit ?_ | refine blockK_n ?_ | refine blockK_ret ?_ | refine blockK_same ?_ | refine blockK_other ?_ | refine loopK_n ?_ | refine loopK_ret ?_ | refine loopK_exit ?_)
  exact bodyK.nrmD (N ++ (A ++ [(bo, .cells #[o0, o1, o2, o3, o4, o5, .int .i64 n1, .int .u32 n2, .int .u64 n3, .int .u64 n4, .int .u64 n5, u, o12] 47 (0, 0))] ++ B ++ [rds br v7] ++ E)) (Res.zero Tryz.results97) ⟨N, v7, ⟨n1, n2, n3, n4, n5, a⟩, u, xs7, rfl, hv7, by unfold opP; rw [bind_of e1, bind_of e2, bind_of e3, bind_of e4, bind_of e5, bind_of e6, bind_of e7]; rfl, by omega, ⟨p1, by show n1 ≤ 255; omega⟩, ⟨p2, by show n2 ≤ 4294967295; omega⟩, ⟨p3, by show n3 ≤ 18446744073709551615; omega⟩, ⟨p4, by show n4 ≤ 18446744073709551615; omega⟩, ⟨p5, by show n5 ≤ 18446744073709551615; omega⟩, hu⟩
end Go.Proofs.YtlfdaepkoagnbaaGreat

namespace Go.Proofs.YtlfdaepkoagnbaaGreat
open Go Go.Pw Go.Pw.Sc
set_option maxRecDepth 100000
set_option maxHeartbeats 4000000
set_option synthInstance.maxHeartbeats 400000
set_option synthInstance.maxSize 2000
attribute [local irreducible] CW OW RW thenK blockK
attribute [local irreducible] scopeK loopK


theorem sturn46 (br : Nat) (v : Value) (xs : List Int) (D L : Chunk) {C : Chunk → Chunk} [hat : At L [rds br v] C] [hD : MemC D (C [])] (hv : BS D v xs) (hl : xs.length ≤ 65536) :
    FnP Tryz.prog 46 [.pointer (some ⟨br, 0, none⟩)] L
      (fun u L' => ∃ N t vb vd v' xs', u = .agg (tcells t vb vd).toArray ∧ L' = N ++ C [rds br v'] ∧ BS N vb t.obytes ∧ BS N vd t.draws ∧ TR t ∧ BS D v' xs' ∧ turnP xs = some (t, xs'))
      (fun ch L' => turnP xs = none ∧ ch = pnc 380 ∧ L' = C []) := by
  intro w0; refine Spec.enter1 Tryz.func46 rfl Tryz.ntmps46 (by decide) ?_
  have sv := hv.sng
  obtain ⟨A, B, rfl, hC⟩ := hat.out
  simp only [hC] at hD ⊢
  clear hC hat
  repeat' (first | refine CW.seq ?_ | refine CW.block ?_ | refine CW.skip ?_ | refine CW.exit ?_ | refine CW.ret ?_ | refine CW.regionF (by kernel_rfl) ?_ | refine CW.drawsT mixed (by kernel_rfl) ?_ | refine CW.condT ?_ | refine CW.condF ?_ | refine OW.skip (by rfl) (List.cons_ne_nil _ _) (fun _ => ?_) | refine OW.nil ?_ | refine OW.gT ?_ | refine OW.gF ?_ | refine OW.gF0 ?_ | refine OW.w (by constructor; omega; omega) ?_ | refine OW.decT (by omega) ?_ | refine OW.decF (by omega) ?_ | refine OW.dec (fun _ => ?_) (fun _ => ?_) | refine OW.p ?_ | refine OW.p0 ?_ | refine OW.ix (by constructor; omega; omega) ?_ | refine OW.ixA (by constructor; omega; omega) ?_ | refine OW.a (fun _ => ?_) | refine OW.u ?_ | refine RW.skip (by rfl) (List.cons_ne_nil _ _) (fun _ => ?_) | refine RW.nil ?_ | refine RW.gF ?_ | refine RW.gF0 ?_ | refine RW.w (by constructor; omega; omega) rfl ?_ | refine RW.decT (by omega) rfl ?_ | refine RW.decF (by omega) rfl ?_ | refine RW.dec rfl (fun _ => ?_) (fun _ => ?_) | refine RW.p rfl ?_ | refine RW.p0 rfl ?_ | refine RW.ix (by constructor; omega; omega) ?_ | refine RW.ixA (by constructor; omega; omega) ?_ | refine RW.a rfl (fun _ => ?_) | refine RW.u rfl ?_ | refine thenK_n ?_ | refine thenK_ret ?_ | refine thenK_exit ?_ | refine blockK_n ?_ | refine blockK_ret ?_ | refine blockK_same ?_ | refine blockK_other ?_ | refine loopK_n ?_ | refine loopK_ret ?_ | refine loopK_exit ?_)
  refine OW.callX (sget br 1 (by decide) v xs D _ hv hl) ?_ ?_
  · rintro _ _ ⟨h, rfl, rfl⟩
    have h : numP 1 xs = none := h
    repeat' (first | refine thenK_p ?_ | refine blockK_p ?_ | refine loopK_p ?_ | refine scopeK_p ?_)
    exact bodyK.pnc (A ++ [] ++ B) ⟨tpBad0 h, rfl, rfl⟩
  rintro _ _ ⟨v1, k, xs1, rfl, rfl, hv1, e1, le1, p1, q1⟩
  have e1 : numP 1 xs = some (k, xs1) := e1
  rw [py1] at q1
  have s1 := hv1.sng
  repeat' (first | refine CW.seq ?_ | refine CW.block ?_ | refine CW.skip ?_ | refine CW.exit ?_ | refine CW.ret ?_ | refine CW.regionF (by kernel_rfl) ?_ | refine CW.condT ?_ | refine CW.condF ?_ | refine OW.skip (by rfl) (List.cons_ne_nil _ _) (fun _ => ?_) | refine OW.nil ?_ | refine OW.gT ?_ | refine OW.gF ?_ | refine OW.gF0 ?_ | refine OW.w (by constructor; omega; omega) ?_ | refine OW.decT (by omega) ?_ | refine OW.decF (by omega) ?_ | refine OW.dec (fun _ => ?_) (fun _ => ?_) | refine OW.p ?_ | refine OW.p0 ?_ | refine OW.ix (by constructor; omega; omega) ?_ | refine OW.ixA (by constructor; omega; omega) ?_ | refine OW.a (fun _ => ?_) | refine OW.u ?_ | refine RW.skip (by rfl) (List.cons_ne_nil _ _) (fun _ => ?_) | refine RW.nil ?_ | refine RW.gF ?_ | refine RW.gF0 ?_ | refine RW.w (by constructor; omega; omega) rfl ?_ | refine RW.decT (by omega) rfl ?_ | refine RW.decF (by omega) rfl ?_ | refine RW.dec rfl (fun _ => ?_) (fun _ => ?_) | refine RW.p rfl ?_ | refine RW.p0 rfl ?_ | refine RW.ix (by constructor; omega; omega) ?_ | refine RW.ixA (by constructor; omega; omega) ?_ | refine RW.a rfl (fun _ => ?_) | refine RW.u rfl ?_ | refine thenK_n ?_ | refine thenK_ret ?_ | refine thenK_exit ?_ | refine blockK_n ?_ | refine blockK_ret ?_ | refine blockK_same ?_ | refine blockK_other ?_ | refine loopK_n ?_ | refine loopK_ret ?_ | refine loopK_exit ?_)
  rename_i b2 b3
  refine CW.drawsR ([(b3, .cells #[.int .i64 k, .int .i64 0, .int .i64 0, .int .i64 0, .int .i64 0, .int .i64 0, .int .i64 0, .int .u32 0, .int .u64 0, .int .u64 0, .int .u64 0, .slice none 0 0, .slice none 0 0] 47 (0, 0))]) [1, 2, 0, 3, 4, 5, 6, 7, 8] mixed (by kernel_rfl) ?_
  repeat' (first | refine CW.seq ?_ | refine CW.block ?_ | refine CW.skip ?_ | refine CW.exit ?_ | refine CW.ret ?_ | refine CW.regionF (by kernel_rfl) ?_ | refine CW.drawsT mixed (by kernel_rfl) ?_ | refine CW.condT ?_ | refine CW.condF ?_ | refine OW.skip (by rfl) (List.cons_ne_nil _ _) (fun _ => ?_) | refine OW.nil ?_ | refine OW.gT ?_ | refine OW.gF ?_ | refine OW.gF0 ?_ | refine OW.w (by constructor; omega; omega) ?_ | refine OW.decT (by omega) ?_ | refine OW.decF (by omega) ?_ | refine OW.dec (fun _ => ?_) (fun _ => ?_) | refine OW.p ?_ | refine OW.p0 ?_ | refine OW.ix (by constructor; omega; omega) ?_ | refine OW.ixA (by constructor; omega; omega) ?_ | refine OW.a (fun _ => ?_) | refine OW.u ?_ | refine RW.skip (by rfl) (List.cons_ne_nil _ _) (fun _ => ?_) | refine RW.nil ?_ | refine RW.gF ?_ | refine RW.gF0 ?_ | refine RW.w (by constructor; omega; omega) rfl ?_ | refine RW.decT (by omega) rfl ?_ | refine RW.decF (by omega) rfl ?_ | refine RW.dec rfl (fun _ => ?_) (fun _ => ?_) | refine RW.p rfl ?_ | refine RW.p0 rfl ?_ | refine RW.ix (by constructor; omega; omega) ?_ | refine RW.ixA (by constructor; omega; omega) ?_ | refine RW.a rfl (fun _ => ?_) | refine RW.u rfl ?_ | refine thenK_n ?_ | refine thenK_ret ?_ | refine thenK_exit ?_ | refine blockK_n ?_ | refine blockK_ret ?_ | refine blockK_same ?_ | refine blockK_other ?_ | refine loopK_n ?_ | refine loopK_ret ?_ | refine loopK_exit ?_)
  refine RW.call (needs _) ?_
  rintro _ _ ⟨m, p1', p2, p3, p4, p5, p6, rfl, rfl⟩
  refine pinAll ?_
  rcases kinds k with hk | hk | hk | hk | hk | hk | hk
  · refine RW.y (lookOk (findN1 p1' p2 p3 p4 p5 p6 hk)) rfl ?_
    repeat' (first | refine CW.seq ?_ | refine CW.block ?_ | refine CW.skip ?_ | refine CW.exit ?_ | refine CW.ret ?_ | refine CW.regionF (by kernel_rfl) ?_ | refine CW.drawsT mixed (by kernel_rfl) ?_ | refine CW.condT ?_ | refine CW.condF ?_ | refine OW.skip (by rfl) (List.cons_ne_nil _ _) (fun _ => ?_) | refine OW.nil ?_ | refine OW.gT ?_ | refine OW.gF ?_ | refine OW.gF0 ?_ | refine OW.w (by constructor; omega; omega) ?_ | refine OW.decT (by omega) ?_ | refine OW.decF (by omega) ?_ | refine OW.dec (fun _ => ?_) (fun _ => ?_) | refine OW.p ?_ | refine OW.p0 ?_ | refine OW.ix (by constructor; omega; omega) ?_ | refine OW.ixA (by constructor; omega; omega) ?_ | refine OW.a (fun _ => ?_) | refine OW.u ?_ | refine RW.skip (by rfl) (List.cons_ne_nil _ _) (fun _ => ?_) | refine RW.nil ?_ | refine RW.gF ?_ | refine RW.gF0 ?_ | refine RW.w (by constructor; omega; omega) rfl ?_ | refine RW.decT (by omega) rfl ?_ | refine RW.decF (by omega) rfl ?_ | refine RW.dec rfl (fun _ => ?_) (fun _ => ?_) | refine RW.p rfl ?_ | refine RW.p0 rfl ?_ | refine RW.ix (by constructor; omega; omega) ?_ | refine RW.ixA (by constructor; omega; omega) ?_ | refine RW.a rfl (fun _ => ?_) | refine RW.u rfl ?_ | refine thenK_n ?_ | refine thenK_ret ?_ | refine thenK_exit ?_ | refine blockK_n ?_ | refine blockK_ret ?_ | refine blockK_same ?_ | refine blockK_other ?_ | refine loopK_n ?_ | refine loopK_ret ?_ | refine loopK_exit ?_)
    refine OW.callX (must true 380 _) (fun _ _ h => (by cases h.1)) ?_
    rintro _ _ ⟨_, rfl⟩
    repeat' (first | refine CW.seq ?_ | refine CW.block ?_ | refine CW.skip ?_ | refine CW.exit ?_ | refine CW.ret ?_ | refine CW.regionF (by kernel_rfl) ?_ | refine CW.drawsT mixed (by kernel_rfl) ?_ | refine CW.condT ?_ | refine CW.condF ?_ | refine OW.skip (by rfl) (List.cons_ne_nil _ _) (fun _ => ?_) | refine OW.nil ?_ | refine OW.gT ?_ | refine OW.gF ?_ | refine OW.gF0 ?_ | refine OW.w (by constructor; omega; omega) ?_ | refine OW.decT (by omega) ?_ | refine OW.decF (by omega) ?_ | refine OW.dec (fun _ => ?_) (fun _ => ?_) | refine OW.p ?_ | refine OW.p0 ?_ | refine OW.ix (by constructor; omega; omega) ?_ | refine OW.ixA (by constructor; omega; omega) ?_ | refine OW.a (fun _ => ?_) | refine OW.u ?_ | refine RW.skip (by rfl) (List.cons_ne_nil _ _) (fun _ => ?_) | refine RW.nil ?_ | refine RW.gF ?_ | refine RW.gF0 ?_ | refine RW.w (by constructor; omega; omega) rfl ?_ | refine RW.decT (by omega) rfl ?_ | refine RW.decF (by omega) rfl ?_ | refine RW.dec rfl (fun _ => ?_) (fun _ => ?_) | refine RW.p rfl ?_ | refine RW.p0 rfl ?_ | refine RW.ix (by constructor; omega; omega) ?_ | refine RW.ixA (by constructor; omega; omega) ?_ | refine RW.a rfl (fun _ => ?_) | refine RW.u rfl ?_ | refine thenK_n ?_ | refine thenK_ret ?_ | refine thenK_exit ?_ | refine blockK_n ?_ | refine blockK_ret ?_ | refine blockK_same ?_ | refine blockK_other ?_ | refine loopK_n ?_ | refine loopK_ret ?_ | refine loopK_exit ?_)
    refine CW.loopU 2 ?_
    repeat' (first | refine CW.seq ?_ | refine CW.block ?_ | refine CW.skip ?_ | refine CW.exit ?_ | refine CW.ret ?_ | refine CW.regionF (by kernel_rfl) ?_ | refine CW.drawsT mixed (by kernel_rfl) ?_ | refine CW.condT ?_ | refine CW.condF ?_ | refine OW.skip (by rfl) (List.cons_ne_nil _ _) (fun _ => ?_) | refine OW.nil ?_ | refine OW.gT ?_ | refine OW.gF ?_ | refine OW.gF0 ?_ | refine OW.w (by constructor; omega; omega) ?_ | refine OW.decT (by omega) ?_ | refine OW.decF (by omega) ?_ | refine OW.dec (fun _ => ?_) (fun _ => ?_) | refine OW.p ?_ | refine OW.p0 ?_ | refine OW.ix (by constructor; omega; omega) ?_ | refine OW.ixA (by constructor; omega; omega) ?_ | refine OW.a (fun _ => ?_) | refine OW.u ?_ | refine RW.skip (by rfl) (List.cons_ne_nil _ _) (fun _ => ?_) | refine RW.nil ?_ | refine RW.gF ?_ | refine RW.gF0 ?_ | refine RW.w (by constructor; omega; omega) rfl ?_ | refine RW.decT (by omega) rfl ?_ | refine RW.decF (by omega) rfl ?_ | refine RW.dec rfl (fun _ => ?_) (fun _ => ?_) | refine RW.p rfl ?_ | refine RW.p0 rfl ?_ | refine RW.ix (by constructor; omega; omega) ?_ | refine RW.ixA (by constructor; omega; omega) ?_ | refine RW.a rfl (fun _ => ?_) | refine RW.u rfl ?_ | refine thenK_n ?_ | refine thenK_ret ?_ | refine thenK_exit ?_ | refine blockK_n ?_ | refine blockK_ret ?_ | refine blockK_same ?_ | refine blockK_other ?_ | refine loopK_n ?_ | refine loopK_ret ?_ | refine loopK_exit ?_)
    refine OW.callX (read_created br b3 v1 xs1 D _ (.int .i64 k) (.int .i64 0) (.int .i64 0) (.int .i64 0) (.int .i64 0) (.int .i64 0) (.int .i64 0) (.int .u32 0) (.int .u64 0) (.int .u64 0) (.int .u64 0) (.slice none 0 0) (.slice none 0 0) hv1 (by omega)) ?_ ?_
    · rintro _ _ ⟨h, rfl, rfl⟩
      repeat' (first | refine thenK_p ?_ | refine blockK_p ?_ | refine loopK_p ?_ | refine scopeK_p ?_)
      exact bodyK.pnc (A ++ [] ++ B) ⟨tpN1 e1 hk h, rfl, rfl⟩
    rintro _ _ ⟨N2, v2, a2, g2, xs2, rfl, hv2, e2, le2, ra2, rg2⟩
    have s2 := hv2.sng
    repeat' (first | refine CW.seq ?_ | refine CW.block ?_ | refine CW.skip ?_ | refine CW.exit ?_ | refine CW.ret ?_ | refine CW.regionF (by kernel_rfl) ?_ | refine CW.drawsT mixed (by kernel_rfl) ?_ | refine CW.condT ?_ | refine CW.condF ?_ | refine OW.skip (by rfl) (List.cons_ne_nil _ _) (fun _ => ?_) | refine OW.nil ?_ | refine OW.gT ?_ | refine OW.gF ?_ | refine OW.gF0 ?_ | refine OW.w (by constructor; omega; omega) ?_ | refine OW.decT (by omega) ?_ | refine OW.decF (by omega) ?_ | refine OW.dec (fun _ => ?_) (fun _ => ?_) | refine OW.p ?_ | refine OW.p0 ?_ | refine OW.ix (by constructor; omega; omega) ?_ | refine OW.ixA (by constructor; omega; omega) ?_ | refine OW.a (fun _ => ?_) | refine OW.u ?_ | refine RW.skip (by rfl) (List.cons_ne_nil _ _) (fun _ => ?_) | refine RW.nil ?_ | refine RW.gF ?_ | refine RW.gF0 ?_ | refine RW.w (by constructor; omega; omega) rfl ?_ | refine RW.decT (by omega) rfl ?_ | refine RW.decF (by omega) rfl ?_ | refine RW.dec rfl (fun _ => ?_) (fun _ => ?_) | refine RW.p rfl ?_ | refine RW.p0 rfl ?_ | refine RW.ix (by constructor; omega; omega) ?_ | refine RW.ixA (by constructor; omega; omega) ?_ | refine RW.a rfl (fun _ => ?_) | refine RW.u rfl ?_ | refine thenK_n ?_ | refine thenK_ret ?_ | refine thenK_exit ?_ | refine blockK_n ?_ | refine blockK_ret ?_ | refine blockK_same ?_ | refine blockK_other ?_ | refine loopK_n ?_ | refine loopK_ret ?_ | refine loopK_exit ?_)
    refine bodyK.retD ((A ++ [rds br v2] ++ B)) (Res.of1 Tryz.results46) ?_
    exact ⟨[], ⟨k, a2, g2, 0, 0, 0, 0, 0, 0, 0, 0, [], []⟩, _, _, v2, xs2, rfl, rfl, BS.nil _, BS.nil _, TR.lit ⟨by omega, by omega⟩ ⟨by have := ra2.1; omega, by have := ra2.2; omega⟩ ⟨by have := rg2.1; omega, by have := rg2.2; omega⟩ ⟨by omega, by omega⟩ ⟨by omega, by omega⟩ ⟨by omega, by omega⟩ ⟨by omega, by omega⟩ ⟨by omega, by omega⟩ ⟨by omega, by omega⟩ ⟨by omega, by omega⟩ ⟨by omega, by omega⟩, hv2, tpS1 e1 hk e2⟩
  · refine RW.y (lookOk (findN2 p1' p2 p3 p4 p5 p6 hk)) rfl ?_
    repeat' (first | refine CW.seq ?_ | refine CW.block ?_ | refine CW.skip ?_ | refine CW.exit ?_ | refine CW.ret ?_ | refine CW.regionF (by kernel_rfl) ?_ | refine CW.drawsT mixed (by kernel_rfl) ?_ | refine CW.condT ?_ | refine CW.condF ?_ | refine OW.skip (by rfl) (List.cons_ne_nil _ _) (fun _ => ?_) | refine OW.nil ?_ | refine OW.gT ?_ | refine OW.gF ?_ | refine OW.gF0 ?_ | refine OW.w (by constructor; omega; omega) ?_ | refine OW.decT (by omega) ?_ | refine OW.decF (by omega) ?_ | refine OW.dec (fun _ => ?_) (fun _ => ?_) | refine OW.p ?_ | refine OW.p0 ?_ | refine OW.ix (by constructor; omega; omega) ?_ | refine OW.ixA (by constructor; omega; omega) ?_ | refine OW.a (fun _ => ?_) | refine OW.u ?_ | refine RW.skip (by rfl) (List.cons_ne_nil _ _) (fun _ => ?_) | refine RW.nil ?_ | refine RW.gF ?_ | refine RW.gF0 ?_ | refine RW.w (by constructor; omega; omega) rfl ?_ | refine RW.decT (by omega) rfl ?_ | refine RW.decF (by omega) rfl ?_ | refine RW.dec rfl (fun _ => ?_) (fun _ => ?_) | refine RW.p rfl ?_ | refine RW.p0 rfl ?_ | refine RW.ix (by constructor; omega; omega) ?_ | refine RW.ixA (by constructor; omega; omega) ?_ | refine RW.a rfl (fun _ => ?_) | refine RW.u rfl ?_ | refine thenK_n ?_ | refine thenK_ret ?_ | refine thenK_exit ?_ | refine blockK_n ?_ | refine blockK_ret ?_ | refine blockK_same ?_ | refine blockK_other ?_ | refine loopK_n ?_ | refine loopK_ret ?_ | refine loopK_exit ?_)
    refine OW.callX (must true 380 _) (fun _ _ h => (by cases h.1)) ?_
    rintro _ _ ⟨_, rfl⟩
    repeat' (first | refine CW.seq ?_ | refine CW.block ?_ | refine CW.skip ?_ | refine CW.exit ?_ | refine CW.ret ?_ | refine CW.regionF (by kernel_rfl) ?_ | refine CW.drawsT mixed (by kernel_rfl) ?_ | refine CW.condT ?_ | refine CW.condF ?_ | refine OW.skip (by rfl) (List.cons_ne_nil _ _) (fun _ => ?_) | refine OW.nil ?_ | refine OW.gT ?_ | refine OW.gF ?_ | refine OW.gF0 ?_ | refine OW.w (by constructor; omega; omega) ?_ | refine OW.decT (by omega) ?_ | refine OW.decF (by omega) ?_ | refine OW.dec (fun _ => ?_) (fun _ => ?_) | refine OW.p ?_ | refine OW.p0 ?_ | refine OW.ix (by constructor; omega; omega) ?_ | refine OW.ixA (by constructor; omega; omega) ?_ | refine OW.a (fun _ => ?_) | refine OW.u ?_ | refine RW.skip (by rfl) (List.cons_ne_nil _ _) (fun _ => ?_) | refine RW.nil ?_ | refine RW.gF ?_ | refine RW.gF0 ?_ | refine RW.w (by constructor; omega; omega) rfl ?_ | refine RW.decT (by omega) rfl ?_ | refine RW.decF (by omega) rfl ?_ | refine RW.dec rfl (fun _ => ?_) (fun _ => ?_) | refine RW.p rfl ?_ | refine RW.p0 rfl ?_ | refine RW.ix (by constructor; omega; omega) ?_ | refine RW.ixA (by constructor; omega; omega) ?_ | refine RW.a rfl (fun _ => ?_) | refine RW.u rfl ?_ | refine thenK_n ?_ | refine thenK_ret ?_ | refine thenK_exit ?_ | refine blockK_n ?_ | refine blockK_ret ?_ | refine blockK_same ?_ | refine blockK_other ?_ | refine loopK_n ?_ | refine loopK_ret ?_ | refine loopK_exit ?_)
    refine CW.loopU 2 ?_
    repeat' (first | refine CW.seq ?_ | refine CW.block ?_ | refine CW.skip ?_ | refine CW.exit ?_ | refine CW.ret ?_ | refine CW.regionF (by kernel_rfl) ?_ | refine CW.drawsT mixed (by kernel_rfl) ?_ | refine CW.condT ?_ | refine CW.condF ?_ | refine OW.skip (by rfl) (List.cons_ne_nil _ _) (fun _ => ?_) | refine OW.nil ?_ | refine OW.gT ?_ | refine OW.gF ?_ | refine OW.gF0 ?_ | refine OW.w (by constructor; omega; omega) ?_ | refine OW.decT (by omega) ?_ | refine OW.decF (by omega) ?_ | refine OW.dec (fun _ => ?_) (fun _ => ?_) | refine OW.p ?_ | refine OW.p0 ?_ | refine OW.ix (by constructor; omega; omega) ?_ | refine OW.ixA (by constructor; omega; omega) ?_ | refine OW.a (fun _ => ?_) | refine OW.u ?_ | refine RW.skip (by rfl) (List.cons_ne_nil _ _) (fun _ => ?_) | refine RW.nil ?_ | refine RW.gF ?_ | refine RW.gF0 ?_ | refine RW.w (by constructor; omega; omega) rfl ?_ | refine RW.decT (by omega) rfl ?_ | refine RW.decF (by omega) rfl ?_ | refine RW.dec rfl (fun _ => ?_) (fun _ => ?_) | refine RW.p rfl ?_ | refine RW.p0 rfl ?_ | refine RW.ix (by constructor; omega; omega) ?_ | refine RW.ixA (by constructor; omega; omega) ?_ | refine RW.a rfl (fun _ => ?_) | refine RW.u rfl ?_ | refine thenK_n ?_ | refine thenK_ret ?_ | refine thenK_exit ?_ | refine blockK_n ?_ | refine blockK_ret ?_ | refine blockK_same ?_ | refine blockK_other ?_ | refine loopK_n ?_ | refine loopK_ret ?_ | refine loopK_exit ?_)
    refine OW.callX (read_handle br b3 v1 xs1 D _ (.int .i64 k) (.int .i64 0) (.int .i64 0) (.int .i64 0) (.int .i64 0) (.int .i64 0) (.int .i64 0) (.int .u32 0) (.int .u64 0) (.int .u64 0) (.int .u64 0) (.slice none 0 0) (.slice none 0 0) hv1 (by omega)) ?_ ?_
    · rintro _ _ ⟨h, rfl, rfl⟩
      repeat' (first | refine thenK_p ?_ | refine blockK_p ?_ | refine loopK_p ?_ | refine scopeK_p ?_)
      exact bodyK.pnc (A ++ [] ++ B) ⟨tpN2 e1 hk h, rfl, rfl⟩
    rintro _ _ ⟨N2, v2, a2, g2, xs2, rfl, hv2, e2, le2, ra2, rg2⟩
    have s2 := hv2.sng
    repeat' (first | refine CW.seq ?_ | refine CW.block ?_ | refine CW.skip ?_ | refine CW.exit ?_ | refine CW.ret ?_ | refine CW.regionF (by kernel_rfl) ?_ | refine CW.drawsT mixed (by kernel_rfl) ?_ | refine CW.condT ?_ | refine CW.condF ?_ | refine OW.skip (by rfl) (List.cons_ne_nil _ _) (fun _ => ?_) | refine OW.nil ?_ | refine OW.gT ?_ | refine OW.gF ?_ | refine OW.gF0 ?_ | refine OW.w (by constructor; omega; omega) ?_ | refine OW.decT (by omega) ?_ | refine OW.decF (by omega) ?_ | refine OW.dec (fun _ => ?_) (fun _ => ?_) | refine OW.p ?_ | refine OW.p0 ?_ | refine OW.ix (by constructor; omega; omega) ?_ | refine OW.ixA (by constructor; omega; omega) ?_ | refine OW.a (fun _ => ?_) | refine OW.u ?_ | refine RW.skip (by rfl) (List.cons_ne_nil _ _) (fun _ => ?_) | refine RW.nil ?_ | refine RW.gF ?_ | refine RW.gF0 ?_ | refine RW.w (by constructor; omega; omega) rfl ?_ | refine RW.decT (by omega) rfl ?_ | refine RW.decF (by omega) rfl ?_ | refine RW.dec rfl (fun _ => ?_) (fun _ => ?_) | refine RW.p rfl ?_ | refine RW.p0 rfl ?_ | refine RW.ix (by constructor; omega; omega) ?_ | refine RW.ixA (by constructor; omega; omega) ?_ | refine RW.a rfl (fun _ => ?_) | refine RW.u rfl ?_ | refine thenK_n ?_ | refine thenK_ret ?_ | refine thenK_exit ?_ | refine blockK_n ?_ | refine blockK_ret ?_ | refine blockK_same ?_ | refine blockK_other ?_ | refine loopK_n ?_ | refine loopK_ret ?_ | refine loopK_exit ?_)
    refine bodyK.retD ((A ++ [rds br v2] ++ B)) (Res.of1 Tryz.results46) ?_
    exact ⟨[], ⟨k, 0, 0, 0, a2, g2, 0, 0, 0, 0, 0, [], []⟩, _, _, v2, xs2, rfl, rfl, BS.nil _, BS.nil _, TR.lit ⟨by omega, by omega⟩ ⟨by omega, by omega⟩ ⟨by omega, by omega⟩ ⟨by omega, by omega⟩ ⟨by have := ra2.1; omega, by have := ra2.2; omega⟩ ⟨by have := rg2.1; omega, by have := rg2.2; omega⟩ ⟨by omega, by omega⟩ ⟨by omega, by omega⟩ ⟨by omega, by omega⟩ ⟨by omega, by omega⟩ ⟨by omega, by omega⟩, hv2, tpS2 e1 hk e2⟩
  · refine RW.y (lookOk (findN3 p1' p2 p3 p4 p5 p6 hk)) rfl ?_
    repeat' (first | refine CW.seq ?_ | refine CW.block ?_ | refine CW.skip ?_ | refine CW.exit ?_ | refine CW.ret ?_ | refine CW.regionF (by kernel_rfl) ?_ | refine CW.drawsT mixed (by kernel_rfl) ?_ | refine CW.condT ?_ | refine CW.condF ?_ | refine OW.skip (by rfl) (List.cons_ne_nil _ _) (fun _ => ?_) | refine OW.nil ?_ | refine OW.gT ?_ | refine OW.gF ?_ | refine OW.gF0 ?_ | refine OW.w (by constructor; omega; omega) ?_ | refine OW.decT (by omega) ?_ | refine OW.decF (by omega) ?_ | refine OW.dec (fun _ => ?_) (fun _ => ?_) | refine OW.p ?_ | refine OW.p0 ?_ | refine OW.ix (by constructor; omega; omega) ?_ | refine OW.ixA (by constructor; omega; omega) ?_ | refine OW.a (fun _ => ?_) | refine OW.u ?_ | refine RW.skip (by rfl) (List.cons_ne_nil _ _) (fun _ => ?_) | refine RW.nil ?_ | refine RW.gF ?_ | refine RW.gF0 ?_ | refine RW.w (by constructor; omega; omega) rfl ?_ | refine RW.decT (by omega) rfl ?_ | refine RW.decF (by omega) rfl ?_ | refine RW.dec rfl (fun _ => ?_) (fun _ => ?_) | refine RW.p rfl ?_ | refine RW.p0 rfl ?_ | refine RW.ix (by constructor; omega; omega) ?_ | refine RW.ixA (by constructor; omega; omega) ?_ | refine RW.a rfl (fun _ => ?_) | refine RW.u rfl ?_ | refine thenK_n ?_ | refine thenK_ret ?_ | refine thenK_exit ?_ | refine blockK_n ?_ | refine blockK_ret ?_ | refine blockK_same ?_ | refine blockK_other ?_ | refine loopK_n ?_ | refine loopK_ret ?_ | refine loopK_exit ?_)
    refine OW.callX (must true 380 _) (fun _ _ h => (by cases h.1)) ?_
    rintro _ _ ⟨_, rfl⟩
    repeat' (first | refine CW.seq ?_ | refine CW.block ?_ | refine CW.skip ?_ | refine CW.exit ?_ | refine CW.ret ?_ | refine CW.regionF (by kernel_rfl) ?_ | refine CW.drawsT mixed (by kernel_rfl) ?_ | refine CW.condT ?_ | refine CW.condF ?_ | refine OW.skip (by rfl) (List.cons_ne_nil _ _) (fun _ => ?_) | refine OW.nil ?_ | refine OW.gT ?_ | refine OW.gF ?_ | refine OW.gF0 ?_ | refine OW.w (by constructor; omega; omega) ?_ | refine OW.decT (by omega) ?_ | refine OW.decF (by omega) ?_ | refine OW.dec (fun _ => ?_) (fun _ => ?_) | refine OW.p ?_ | refine OW.p0 ?_ | refine OW.ix (by constructor; omega; omega) ?_ | refine OW.ixA (by constructor; omega; omega) ?_ | refine OW.a (fun _ => ?_) | refine OW.u ?_ | refine RW.skip (by rfl) (List.cons_ne_nil _ _) (fun _ => ?_) | refine RW.nil ?_ | refine RW.gF ?_ | refine RW.gF0 ?_ | refine RW.w (by constructor; omega; omega) rfl ?_ | refine RW.decT (by omega) rfl ?_ | refine RW.decF (by omega) rfl ?_ | refine RW.dec rfl (fun _ => ?_) (fun _ => ?_) | refine RW.p rfl ?_ | refine RW.p0 rfl ?_ | refine RW.ix (by constructor; omega; omega) ?_ | refine RW.ixA (by constructor; omega; omega) ?_ | refine RW.a rfl (fun _ => ?_) | refine RW.u rfl ?_ | refine thenK_n ?_ | refine thenK_ret ?_ | refine thenK_exit ?_ | refine blockK_n ?_ | refine blockK_ret ?_ | refine blockK_same ?_ | refine blockK_other ?_ | refine loopK_n ?_ | refine loopK_ret ?_ | refine loopK_exit ?_)
    refine CW.loopU 3 ?_
    repeat' (first | refine CW.seq ?_ | refine CW.block ?_ | refine CW.skip ?_ | refine CW.exit ?_ | refine CW.ret ?_ | refine CW.regionF (by kernel_rfl) ?_ | refine CW.drawsT mixed (by kernel_rfl) ?_ | refine CW.condT ?_ | refine CW.condF ?_ | refine OW.skip (by rfl) (List.cons_ne_nil _ _) (fun _ => ?_) | refine OW.nil ?_ | refine OW.gT ?_ | refine OW.gF ?_ | refine OW.gF0 ?_ | refine OW.w (by constructor; omega; omega) ?_ | refine OW.decT (by omega) ?_ | refine OW.decF (by omega) ?_ | refine OW.dec (fun _ => ?_) (fun _ => ?_) | refine OW.p ?_ | refine OW.p0 ?_ | refine OW.ix (by constructor; omega; omega) ?_ | refine OW.ixA (by constructor; omega; omega) ?_ | refine OW.a (fun _ => ?_) | refine OW.u ?_ | refine RW.skip (by rfl) (List.cons_ne_nil _ _) (fun _ => ?_) | refine RW.nil ?_ | refine RW.gF ?_ | refine RW.gF0 ?_ | refine RW.w (by constructor; omega; omega) rfl ?_ | refine RW.decT (by omega) rfl ?_ | refine RW.decF (by omega) rfl ?_ | refine RW.dec rfl (fun _ => ?_) (fun _ => ?_) | refine RW.p rfl ?_ | refine RW.p0 rfl ?_ | refine RW.ix (by constructor; omega; omega) ?_ | refine RW.ixA (by constructor; omega; omega) ?_ | refine RW.a rfl (fun _ => ?_) | refine RW.u rfl ?_ | refine thenK_n ?_ | refine thenK_ret ?_ | refine thenK_exit ?_ | refine blockK_n ?_ | refine blockK_ret ?_ | refine blockK_same ?_ | refine blockK_other ?_ | refine loopK_n ?_ | refine loopK_ret ?_ | refine loopK_exit ?_)
    refine OW.callX (read_thread br b3 v1 xs1 D _ (.int .i64 k) (.int .i64 0) (.int .i64 0) (.int .i64 0) (.int .i64 0) (.int .i64 0) (.int .i64 0) (.int .u32 0) (.int .u64 0) (.int .u64 0) (.int .u64 0) (.slice none 0 0) (.slice none 0 0) hv1 (by omega)) ?_ ?_
    · rintro _ _ ⟨h, rfl, rfl⟩
      repeat' (first | refine thenK_p ?_ | refine blockK_p ?_ | refine loopK_p ?_ | refine scopeK_p ?_)
      exact bodyK.pnc (A ++ [] ++ B) ⟨tpN3 e1 hk h, rfl, rfl⟩
    rintro _ _ ⟨N2, v2, a2, xs2, rfl, hv2, e2, le2, ra2⟩
    have s2 := hv2.sng
    repeat' (first | refine CW.seq ?_ | refine CW.block ?_ | refine CW.skip ?_ | refine CW.exit ?_ | refine CW.ret ?_ | refine CW.regionF (by kernel_rfl) ?_ | refine CW.drawsT mixed (by kernel_rfl) ?_ | refine CW.condT ?_ | refine CW.condF ?_ | refine OW.skip (by rfl) (List.cons_ne_nil _ _) (fun _ => ?_) | refine OW.nil ?_ | refine OW.gT ?_ | refine OW.gF ?_ | refine OW.gF0 ?_ | refine OW.w (by constructor; omega; omega) ?_ | refine OW.decT (by omega) ?_ | refine OW.decF (by omega) ?_ | refine OW.dec (fun _ => ?_) (fun _ => ?_) | refine OW.p ?_ | refine OW.p0 ?_ | refine OW.ix (by constructor; omega; omega) ?_ | refine OW.ixA (by constructor; omega; omega) ?_ | refine OW.a (fun _ => ?_) | refine OW.u ?_ | refine RW.skip (by rfl) (List.cons_ne_nil _ _) (fun _ => ?_) | refine RW.nil ?_ | refine RW.gF ?_ | refine RW.gF0 ?_ | refine RW.w (by constructor; omega; omega) rfl ?_ | refine RW.decT (by omega) rfl ?_ | refine RW.decF (by omega) rfl ?_ | refine RW.dec rfl (fun _ => ?_) (fun _ => ?_) | refine RW.p rfl ?_ | refine RW.p0 rfl ?_ | refine RW.ix (by constructor; omega; omega) ?_ | refine RW.ixA (by constructor; omega; omega) ?_ | refine RW.a rfl (fun _ => ?_) | refine RW.u rfl ?_ | refine thenK_n ?_ | refine thenK_ret ?_ | refine thenK_exit ?_ | refine blockK_n ?_ | refine blockK_ret ?_ | refine blockK_same ?_ | refine blockK_other ?_ | refine loopK_n ?_ | refine loopK_ret ?_ | refine loopK_exit ?_)
    rw [show ((0 : Int) + 1).toNat = 1 from rfl]
    repeat' (first | refine CW.seq ?_ | refine CW.block ?_ | refine CW.skip ?_ | refine CW.exit ?_ | refine CW.ret ?_ | refine CW.regionF (by kernel_rfl) ?_ | refine CW.drawsT mixed (by kernel_rfl) ?_ | refine CW.condT ?_ | refine CW.condF ?_ | refine OW.skip (by rfl) (List.cons_ne_nil _ _) (fun _ => ?_) | refine OW.nil ?_ | refine OW.gT ?_ | refine OW.gF ?_ | refine OW.gF0 ?_ | refine OW.w (by constructor; omega; omega) ?_ | refine OW.decT (by omega) ?_ | refine OW.decF (by omega) ?_ | refine OW.dec (fun _ => ?_) (fun _ => ?_) | refine OW.p ?_ | refine OW.p0 ?_ | refine OW.ix (by constructor; omega; omega) ?_ | refine OW.ixA (by constructor; omega; omega) ?_ | refine OW.a (fun _ => ?_) | refine OW.u ?_ | refine RW.skip (by rfl) (List.cons_ne_nil _ _) (fun _ => ?_) | refine RW.nil ?_ | refine RW.gF ?_ | refine RW.gF0 ?_ | refine RW.w (by constructor; omega; omega) rfl ?_ | refine RW.decT (by omega) rfl ?_ | refine RW.decF (by omega) rfl ?_ | refine RW.dec rfl (fun _ => ?_) (fun _ => ?_) | refine RW.p rfl ?_ | refine RW.p0 rfl ?_ | refine RW.ix (by constructor; omega; omega) ?_ | refine RW.ixA (by constructor; omega; omega) ?_ | refine RW.a rfl (fun _ => ?_) | refine RW.u rfl ?_ | refine thenK_n ?_ | refine thenK_ret ?_ | refine thenK_exit ?_ | refine blockK_n ?_ | refine blockK_ret ?_ | refine blockK_same ?_ | refine blockK_other ?_ | refine loopK_n ?_ | refine loopK_ret ?_ | refine loopK_exit ?_)
    refine OW.callX (read_handle br b3 v2 xs2 D _ (.int .i64 k) (.int .i64 0) (.int .i64 0) (.int .i64 a2) (.int .i64 0) (.int .i64 0) (.int .i64 0) (.int .u32 0) (.int .u64 0) (.int .u64 0) (.int .u64 0) (.slice none 0 0) (.slice none 0 0) hv2 (by omega)) ?_ ?_
    · rintro _ _ ⟨h, rfl, rfl⟩
      repeat' (first | refine thenK_p ?_ | refine blockK_p ?_ | refine loopK_p ?_ | refine scopeK_p ?_)
      exact bodyK.pnc (A ++ [] ++ B) ⟨tpN3a e1 hk e2 h, rfl, rfl⟩
    rintro _ _ ⟨N3, v3, a3, g3, xs3, rfl, hv3, e3, le3, ra3, rg3⟩
    have s3 := hv3.sng
    repeat' (first | refine CW.seq ?_ | refine CW.block ?_ | refine CW.skip ?_ | refine CW.exit ?_ | refine CW.ret ?_ | refine CW.regionF (by kernel_rfl) ?_ | refine CW.drawsT mixed (by kernel_rfl) ?_ | refine CW.condT ?_ | refine CW.condF ?_ | refine OW.skip (by rfl) (List.cons_ne_nil _ _) (fun _ => ?_) | refine OW.nil ?_ | refine OW.gT ?_ | refine OW.gF ?_ | refine OW.gF0 ?_ | refine OW.w (by constructor; omega; omega) ?_ | refine OW.decT (by omega) ?_ | refine OW.decF (by omega) ?_ | refine OW.dec (fun _ => ?_) (fun _ => ?_) | refine OW.p ?_ | refine OW.p0 ?_ | refine OW.ix (by constructor; omega; omega) ?_ | refine OW.ixA (by constructor; omega; omega) ?_ | refine OW.a (fun _ => ?_) | refine OW.u ?_ | refine RW.skip (by rfl) (List.cons_ne_nil _ _) (fun _ => ?_) | refine RW.nil ?_ | refine RW.gF ?_ | refine RW.gF0 ?_ | refine RW.w (by constructor; omega; omega) rfl ?_ | refine RW.decT (by omega) rfl ?_ | refine RW.decF (by omega) rfl ?_ | refine RW.dec rfl (fun _ => ?_) (fun _ => ?_) | refine RW.p rfl ?_ | refine RW.p0 rfl ?_ | refine RW.ix (by constructor; omega; omega) ?_ | refine RW.ixA (by constructor; omega; omega) ?_ | refine RW.a rfl (fun _ => ?_) | refine RW.u rfl ?_ | refine thenK_n ?_ | refine thenK_ret ?_ | refine thenK_exit ?_ | refine blockK_n ?_ | refine blockK_ret ?_ | refine blockK_same ?_ | refine blockK_other ?_ | refine loopK_n ?_ | refine loopK_ret ?_ | refine loopK_exit ?_)
    refine bodyK.retD ((A ++ [rds br v3] ++ B)) (Res.of1 Tryz.results46) ?_
    exact ⟨[], ⟨k, 0, 0, a2, a3, g3, 0, 0, 0, 0, 0, [], []⟩, _, _, v3, xs3, rfl, rfl, BS.nil _, BS.nil _, TR.lit ⟨by omega, by omega⟩ ⟨by omega, by omega⟩ ⟨by omega, by omega⟩ ⟨by have := ra2.1; omega, by have := ra2.2; omega⟩ ⟨by have := ra3.1; omega, by have := ra3.2; omega⟩ ⟨by have := rg3.1; omega, by have := rg3.2; omega⟩ ⟨by omega, by omega⟩ ⟨by omega, by omega⟩ ⟨by omega, by omega⟩ ⟨by omega, by omega⟩ ⟨by omega, by omega⟩, hv3, tpS3 e1 hk e2 e3⟩
  · refine RW.y (lookOk (findN4 p1' p2 p3 p4 p5 p6 hk)) rfl ?_
    repeat' (first | refine CW.seq ?_ | refine CW.block ?_ | refine CW.skip ?_ | refine CW.exit ?_ | refine CW.ret ?_ | refine CW.regionF (by kernel_rfl) ?_ | refine CW.drawsT mixed (by kernel_rfl) ?_ | refine CW.condT ?_ | refine CW.condF ?_ | refine OW.skip (by rfl) (List.cons_ne_nil _ _) (fun _ => ?_) | refine OW.nil ?_ | refine OW.gT ?_ | refine OW.gF ?_ | refine OW.gF0 ?_ | refine OW.w (by constructor; omega; omega) ?_ | refine OW.decT (by omega) ?_ | refine OW.decF (by omega) ?_ | refine OW.dec (fun _ => ?_) (fun _ => ?_) | refine OW.p ?_ | refine OW.p0 ?_ | refine OW.ix (by constructor; omega; omega) ?_ | refine OW.ixA (by constructor; omega; omega) ?_ | refine OW.a (fun _ => ?_) | refine OW.u ?_ | refine RW.skip (by rfl) (List.cons_ne_nil _ _) (fun _ => ?_) | refine RW.nil ?_ | refine RW.gF ?_ | refine RW.gF0 ?_ | refine RW.w (by constructor; omega; omega) rfl ?_ | refine RW.decT (by omega) rfl ?_ | refine RW.decF (by omega) rfl ?_ | refine RW.dec rfl (fun _ => ?_) (fun _ => ?_) | refine RW.p rfl ?_ | refine RW.p0 rfl ?_ | refine RW.ix (by constructor; omega; omega) ?_ | refine RW.ixA (by constructor; omega; omega) ?_ | refine RW.a rfl (fun _ => ?_) | refine RW.u rfl ?_ | refine thenK_n ?_ | refine thenK_ret ?_ | refine thenK_exit ?_ | refine blockK_n ?_ | refine blockK_ret ?_ | refine blockK_same ?_ | refine blockK_other ?_ | refine loopK_n ?_ | refine loopK_ret ?_ | refine loopK_exit ?_)
    refine OW.callX (must true 380 _) (fun _ _ h => (by cases h.1)) ?_
    rintro _ _ ⟨_, rfl⟩
    repeat' (first | refine CW.seq ?_ | refine CW.block ?_ | refine CW.skip ?_ | refine CW.exit ?_ | refine CW.ret ?_ | refine CW.regionF (by kernel_rfl) ?_ | refine CW.drawsT mixed (by kernel_rfl) ?_ | refine CW.condT ?_ | refine CW.condF ?_ | refine OW.skip (by rfl) (List.cons_ne_nil _ _) (fun _ => ?_) | refine OW.nil ?_ | refine OW.gT ?_ | refine OW.gF ?_ | refine OW.gF0 ?_ | refine OW.w (by constructor; omega; omega) ?_ | refine OW.decT (by omega) ?_ | refine OW.decF (by omega) ?_ | refine OW.dec (fun _ => ?_) (fun _ => ?_) | refine OW.p ?_ | refine OW.p0 ?_ | refine OW.ix (by constructor; omega; omega) ?_ | refine OW.ixA (by constructor; omega; omega) ?_ | refine OW.a (fun _ => ?_) | refine OW.u ?_ | refine RW.skip (by rfl) (List.cons_ne_nil _ _) (fun _ => ?_) | refine RW.nil ?_ | refine RW.gF ?_ | refine RW.gF0 ?_ | refine RW.w (by constructor; omega; omega) rfl ?_ | refine RW.decT (by omega) rfl ?_ | refine RW.decF (by omega) rfl ?_ | refine RW.dec rfl (fun _ => ?_) (fun _ => ?_) | refine RW.p rfl ?_ | refine RW.p0 rfl ?_ | refine RW.ix (by constructor; omega; omega) ?_ | refine RW.ixA (by constructor; omega; omega) ?_ | refine RW.a rfl (fun _ => ?_) | refine RW.u rfl ?_ | refine thenK_n ?_ | refine thenK_ret ?_ | refine thenK_exit ?_ | refine blockK_n ?_ | refine blockK_ret ?_ | refine blockK_same ?_ | refine blockK_other ?_ | refine loopK_n ?_ | refine loopK_ret ?_ | refine loopK_exit ?_)
    refine CW.loopU 2 ?_
    repeat' (first | refine CW.seq ?_ | refine CW.block ?_ | refine CW.skip ?_ | refine CW.exit ?_ | refine CW.ret ?_ | refine CW.regionF (by kernel_rfl) ?_ | refine CW.drawsT mixed (by kernel_rfl) ?_ | refine CW.condT ?_ | refine CW.condF ?_ | refine OW.skip (by rfl) (List.cons_ne_nil _ _) (fun _ => ?_) | refine OW.nil ?_ | refine OW.gT ?_ | refine OW.gF ?_ | refine OW.gF0 ?_ | refine OW.w (by constructor; omega; omega) ?_ | refine OW.decT (by omega) ?_ | refine OW.decF (by omega) ?_ | refine OW.dec (fun _ => ?_) (fun _ => ?_) | refine OW.p ?_ | refine OW.p0 ?_ | refine OW.ix (by constructor; omega; omega) ?_ | refine OW.ixA (by constructor; omega; omega) ?_ | refine OW.a (fun _ => ?_) | refine OW.u ?_ | refine RW.skip (by rfl) (List.cons_ne_nil _ _) (fun _ => ?_) | refine RW.nil ?_ | refine RW.gF ?_ | refine RW.gF0 ?_ | refine RW.w (by constructor; omega; omega) rfl ?_ | refine RW.decT (by omega) rfl ?_ | refine RW.decF (by omega) rfl ?_ | refine RW.dec rfl (fun _ => ?_) (fun _ => ?_) | refine RW.p rfl ?_ | refine RW.p0 rfl ?_ | refine RW.ix (by constructor; omega; omega) ?_ | refine RW.ixA (by constructor; omega; omega) ?_ | refine RW.a rfl (fun _ => ?_) | refine RW.u rfl ?_ | refine thenK_n ?_ | refine thenK_ret ?_ | refine thenK_exit ?_ | refine blockK_n ?_ | refine blockK_ret ?_ | refine blockK_same ?_ | refine blockK_other ?_ | refine loopK_n ?_ | refine loopK_ret ?_ | refine loopK_exit ?_)
    refine OW.callX (read_thread br b3 v1 xs1 D _ (.int .i64 k) (.int .i64 0) (.int .i64 0) (.int .i64 0) (.int .i64 0) (.int .i64 0) (.int .i64 0) (.int .u32 0) (.int .u64 0) (.int .u64 0) (.int .u64 0) (.slice none 0 0) (.slice none 0 0) hv1 (by omega)) ?_ ?_
    · rintro _ _ ⟨h, rfl, rfl⟩
      repeat' (first | refine thenK_p ?_ | refine blockK_p ?_ | refine loopK_p ?_ | refine scopeK_p ?_)
      exact bodyK.pnc (A ++ [] ++ B) ⟨tpN4 e1 hk h, rfl, rfl⟩
    rintro _ _ ⟨N2, v2, a2, xs2, rfl, hv2, e2, le2, ra2⟩
    have s2 := hv2.sng
    repeat' (first | refine CW.seq ?_ | refine CW.block ?_ | refine CW.skip ?_ | refine CW.exit ?_ | refine CW.ret ?_ | refine CW.regionF (by kernel_rfl) ?_ | refine CW.drawsT mixed (by kernel_rfl) ?_ | refine CW.condT ?_ | refine CW.condF ?_ | refine OW.skip (by rfl) (List.cons_ne_nil _ _) (fun _ => ?_) | refine OW.nil ?_ | refine OW.gT ?_ | refine OW.gF ?_ | refine OW.gF0 ?_ | refine OW.w (by constructor; omega; omega) ?_ | refine OW.decT (by omega) ?_ | refine OW.decF (by omega) ?_ | refine OW.dec (fun _ => ?_) (fun _ => ?_) | refine OW.p ?_ | refine OW.p0 ?_ | refine OW.ix (by constructor; omega; omega) ?_ | refine OW.ixA (by constructor; omega; omega) ?_ | refine OW.a (fun _ => ?_) | refine OW.u ?_ | refine RW.skip (by rfl) (List.cons_ne_nil _ _) (fun _ => ?_) | refine RW.nil ?_ | refine RW.gF ?_ | refine RW.gF0 ?_ | refine RW.w (by constructor; omega; omega) rfl ?_ | refine RW.decT (by omega) rfl ?_ | refine RW.decF (by omega) rfl ?_ | refine RW.dec rfl (fun _ => ?_) (fun _ => ?_) | refine RW.p rfl ?_ | refine RW.p0 rfl ?_ | refine RW.ix (by constructor; omega; omega) ?_ | refine RW.ixA (by constructor; omega; omega) ?_ | refine RW.a rfl (fun _ => ?_) | refine RW.u rfl ?_ | refine thenK_n ?_ | refine thenK_ret ?_ | refine thenK_exit ?_ | refine blockK_n ?_ | refine blockK_ret ?_ | refine blockK_same ?_ | refine blockK_other ?_ | refine loopK_n ?_ | refine loopK_ret ?_ | refine loopK_exit ?_)
    refine bodyK.retD ((A ++ [rds br v2] ++ B)) (Res.of1 Tryz.results46) ?_
    exact ⟨[], ⟨k, 0, 0, a2, 0, 0, 0, 0, 0, 0, 0, [], []⟩, _, _, v2, xs2, rfl, rfl, BS.nil _, BS.nil _, TR.lit ⟨by omega, by omega⟩ ⟨by omega, by omega⟩ ⟨by omega, by omega⟩ ⟨by have := ra2.1; omega, by have := ra2.2; omega⟩ ⟨by omega, by omega⟩ ⟨by omega, by omega⟩ ⟨by omega, by omega⟩ ⟨by omega, by omega⟩ ⟨by omega, by omega⟩ ⟨by omega, by omega⟩ ⟨by omega, by omega⟩, hv2, tpS4 e1 hk e2⟩
  · refine RW.y (lookOk (findN5 p1' p2 p3 p4 p5 p6 hk)) rfl ?_
    repeat' (first | refine CW.seq ?_ | refine CW.block ?_ | refine CW.skip ?_ | refine CW.exit ?_ | refine CW.ret ?_ | refine CW.regionF (by kernel_rfl) ?_ | refine CW.drawsT mixed (by kernel_rfl) ?_ | refine CW.condT ?_ | refine CW.condF ?_ | refine OW.skip (by rfl) (List.cons_ne_nil _ _) (fun _ => ?_) | refine OW.nil ?_ | refine OW.gT ?_ | refine OW.gF ?_ | refine OW.gF0 ?_ | refine OW.w (by constructor; omega; omega) ?_ | refine OW.decT (by omega) ?_ | refine OW.decF (by omega) ?_ | refine OW.dec (fun _ => ?_) (fun _ => ?_) | refine OW.p ?_ | refine OW.p0 ?_ | refine OW.ix (by constructor; omega; omega) ?_ | refine OW.ixA (by constructor; omega; omega) ?_ | refine OW.a (fun _ => ?_) | refine OW.u ?_ | refine RW.skip (by rfl) (List.cons_ne_nil _ _) (fun _ => ?_) | refine RW.nil ?_ | refine RW.gF ?_ | refine RW.gF0 ?_ | refine RW.w (by constructor; omega; omega) rfl ?_ | refine RW.decT (by omega) rfl ?_ | refine RW.decF (by omega) rfl ?_ | refine RW.dec rfl (fun _ => ?_) (fun _ => ?_) | refine RW.p rfl ?_ | refine RW.p0 rfl ?_ | refine RW.ix (by constructor; omega; omega) ?_ | refine RW.ixA (by constructor; omega; omega) ?_ | refine RW.a rfl (fun _ => ?_) | refine RW.u rfl ?_ | refine thenK_n ?_ | refine thenK_ret ?_ | refine thenK_exit ?_ | refine blockK_n ?_ | refine blockK_ret ?_ | refine blockK_same ?_ | refine blockK_other ?_ | refine loopK_n ?_ | refine loopK_ret ?_ | refine loopK_exit ?_)
    refine OW.callX (must true 380 _) (fun _ _ h => (by cases h.1)) ?_
    rintro _ _ ⟨_, rfl⟩
    repeat' (first | refine CW.seq ?_ | refine CW.block ?_ | refine CW.skip ?_ | refine CW.exit ?_ | refine CW.ret ?_ | refine CW.regionF (by kernel_rfl) ?_ | refine CW.drawsT mixed (by kernel_rfl) ?_ | refine CW.condT ?_ | refine CW.condF ?_ | refine OW.skip (by rfl) (List.cons_ne_nil _ _) (fun _ => ?_) | refine OW.nil ?_ | refine OW.gT ?_ | refine OW.gF ?_ | refine OW.gF0 ?_ | refine OW.w (by constructor; omega; omega) ?_ | refine OW.decT (by omega) ?_ | refine OW.decF (by omega) ?_ | refine OW.dec (fun _ => ?_) (fun _ => ?_) | refine OW.p ?_ | refine OW.p0 ?_ | refine OW.ix (by constructor; omega; omega) ?_ | refine OW.ixA (by constructor; omega; omega) ?_ | refine OW.a (fun _ => ?_) | refine OW.u ?_ | refine RW.skip (by rfl) (List.cons_ne_nil _ _) (fun _ => ?_) | refine RW.nil ?_ | refine RW.gF ?_ | refine RW.gF0 ?_ | refine RW.w (by constructor; omega; omega) rfl ?_ | refine RW.decT (by omega) rfl ?_ | refine RW.decF (by omega) rfl ?_ | refine RW.dec rfl (fun _ => ?_) (fun _ => ?_) | refine RW.p rfl ?_ | refine RW.p0 rfl ?_ | refine RW.ix (by constructor; omega; omega) ?_ | refine RW.ixA (by constructor; omega; omega) ?_ | refine RW.a rfl (fun _ => ?_) | refine RW.u rfl ?_ | refine thenK_n ?_ | refine thenK_ret ?_ | refine thenK_exit ?_ | refine blockK_n ?_ | refine blockK_ret ?_ | refine blockK_same ?_ | refine blockK_other ?_ | refine loopK_n ?_ | refine loopK_ret ?_ | refine loopK_exit ?_)
    refine CW.loopU 4 ?_
    repeat' (first | refine CW.seq ?_ | refine CW.block ?_ | refine CW.skip ?_ | refine CW.exit ?_ | refine CW.ret ?_ | refine CW.regionF (by kernel_rfl) ?_ | refine CW.drawsT mixed (by kernel_rfl) ?_ | refine CW.condT ?_ | refine CW.condF ?_ | refine OW.skip (by rfl) (List.cons_ne_nil _ _) (fun _ => ?_) | refine OW.nil ?_ | refine OW.gT ?_ | refine OW.gF ?_ | refine OW.gF0 ?_ | refine OW.w (by constructor; omega; omega) ?_ | refine OW.decT (by omega) ?_ | refine OW.decF (by omega) ?_ | refine OW.dec (fun _ => ?_) (fun _ => ?_) | refine OW.p ?_ | refine OW.p0 ?_ | refine OW.ix (by constructor; omega; omega) ?_ | refine OW.ixA (by constructor; omega; omega) ?_ | refine OW.a (fun _ => ?_) | refine OW.u ?_ | refine RW.skip (by rfl) (List.cons_ne_nil _ _) (fun _ => ?_) | refine RW.nil ?_ | refine RW.gF ?_ | refine RW.gF0 ?_ | refine RW.w (by constructor; omega; omega) rfl ?_ | refine RW.decT (by omega) rfl ?_ | refine RW.decF (by omega) rfl ?_ | refine RW.dec rfl (fun _ => ?_) (fun _ => ?_) | refine RW.p rfl ?_ | refine RW.p0 rfl ?_ | refine RW.ix (by constructor; omega; omega) ?_ | refine RW.ixA (by constructor; omega; omega) ?_ | refine RW.a rfl (fun _ => ?_) | refine RW.u rfl ?_ | refine thenK_n ?_ | refine thenK_ret ?_ | refine thenK_exit ?_ | refine blockK_n ?_ | refine blockK_ret ?_ | refine blockK_same ?_ | refine blockK_other ?_ | refine loopK_n ?_ | refine loopK_ret ?_ | refine loopK_exit ?_)
    refine OW.callX (read_thread br b3 v1 xs1 D _ (.int .i64 k) (.int .i64 0) (.int .i64 0) (.int .i64 0) (.int .i64 0) (.int .i64 0) (.int .i64 0) (.int .u32 0) (.int .u64 0) (.int .u64 0) (.int .u64 0) (.slice none 0 0) (.slice none 0 0) hv1 (by omega)) ?_ ?_
    · rintro _ _ ⟨h, rfl, rfl⟩
      repeat' (first | refine thenK_p ?_ | refine blockK_p ?_ | refine loopK_p ?_ | refine scopeK_p ?_)
      exact bodyK.pnc (A ++ [] ++ B) ⟨tpN5 e1 hk h, rfl, rfl⟩
    rintro _ _ ⟨N2, v2, a2, xs2, rfl, hv2, e2, le2, ra2⟩
    have s2 := hv2.sng
    repeat' (first | refine CW.seq ?_ | refine CW.block ?_ | refine CW.skip ?_ | refine CW.exit ?_ | refine CW.ret ?_ | refine CW.regionF (by kernel_rfl) ?_ | refine CW.drawsT mixed (by kernel_rfl) ?_ | refine CW.condT ?_ | refine CW.condF ?_ | refine OW.skip (by rfl) (List.cons_ne_nil _ _) (fun _ => ?_) | refine OW.nil ?_ | refine OW.gT ?_ | refine OW.gF ?_ | refine OW.gF0 ?_ | refine OW.w (by constructor; omega; omega) ?_ | refine OW.decT (by omega) ?_ | refine OW.decF (by omega) ?_ | refine OW.dec (fun _ => ?_) (fun _ => ?_) | refine OW.p ?_ | refine OW.p0 ?_ | refine OW.ix (by constructor; omega; omega) ?_ | refine OW.ixA (by constructor; omega; omega) ?_ | refine OW.a (fun _ => ?_) | refine OW.u ?_ | refine RW.skip (by rfl) (List.cons_ne_nil _ _) (fun _ => ?_) | refine RW.nil ?_ | refine RW.gF ?_ | refine RW.gF0 ?_ | refine RW.w (by constructor; omega; omega) rfl ?_ | refine RW.decT (by omega) rfl ?_ | refine RW.decF (by omega) rfl ?_ | refine RW.dec rfl (fun _ => ?_) (fun _ => ?_) | refine RW.p rfl ?_ | refine RW.p0 rfl ?_ | refine RW.ix (by constructor; omega; omega) ?_ | refine RW.ixA (by constructor; omega; omega) ?_ | refine RW.a rfl (fun _ => ?_) | refine RW.u rfl ?_ | refine thenK_n ?_ | refine thenK_ret ?_ | refine thenK_exit ?_ | refine blockK_n ?_ | refine blockK_ret ?_ | refine blockK_same ?_ | refine blockK_other ?_ | refine loopK_n ?_ | refine loopK_ret ?_ | refine loopK_exit ?_)
    rw [show ((0 : Int) + 1).toNat = 1 from rfl]
    repeat' (first | refine CW.seq ?_ | refine CW.block ?_ | refine CW.skip ?_ | refine CW.exit ?_ | refine CW.ret ?_ | refine CW.regionF (by kernel_rfl) ?_ | refine CW.drawsT mixed (by kernel_rfl) ?_ | refine CW.condT ?_ | refine CW.condF ?_ | refine OW.skip (by rfl) (List.cons_ne_nil _ _) (fun _ => ?_) | refine OW.nil ?_ | refine OW.gT ?_ | refine OW.gF ?_ | refine OW.gF0 ?_ | refine OW.w (by constructor; omega; omega) ?_ | refine OW.decT (by omega) ?_ | refine OW.decF (by omega) ?_ | refine OW.dec (fun _ => ?_) (fun _ => ?_) | refine OW.p ?_ | refine OW.p0 ?_ | refine OW.ix (by constructor; omega; omega) ?_ | refine OW.ixA (by constructor; omega; omega) ?_ | refine OW.a (fun _ => ?_) | refine OW.u ?_ | refine RW.skip (by rfl) (List.cons_ne_nil _ _) (fun _ => ?_) | refine RW.nil ?_ | refine RW.gF ?_ | refine RW.gF0 ?_ | refine RW.w (by constructor; omega; omega) rfl ?_ | refine RW.decT (by omega) rfl ?_ | refine RW.decF (by omega) rfl ?_ | refine RW.dec rfl (fun _ => ?_) (fun _ => ?_) | refine RW.p rfl ?_ | refine RW.p0 rfl ?_ | refine RW.ix (by constructor; omega; omega) ?_ | refine RW.ixA (by constructor; omega; omega) ?_ | refine RW.a rfl (fun _ => ?_) | refine RW.u rfl ?_ | refine thenK_n ?_ | refine thenK_ret ?_ | refine thenK_exit ?_ | refine blockK_n ?_ | refine blockK_ret ?_ | refine blockK_same ?_ | refine blockK_other ?_ | refine loopK_n ?_ | refine loopK_ret ?_ | refine loopK_exit ?_)
    refine OW.callX (read_handle br b3 v2 xs2 D _ (.int .i64 k) (.int .i64 0) (.int .i64 0) (.int .i64 a2) (.int .i64 0) (.int .i64 0) (.int .i64 0) (.int .u32 0) (.int .u64 0) (.int .u64 0) (.int .u64 0) (.slice none 0 0) (.slice none 0 0) hv2 (by omega)) ?_ ?_
    · rintro _ _ ⟨h, rfl, rfl⟩
      repeat' (first | refine thenK_p ?_ | refine blockK_p ?_ | refine loopK_p ?_ | refine scopeK_p ?_)
      exact bodyK.pnc (A ++ [] ++ B) ⟨tpN5a e1 hk e2 h, rfl, rfl⟩
    rintro _ _ ⟨N3, v3, a3, g3, xs3, rfl, hv3, e3, le3, ra3, rg3⟩
    have s3 := hv3.sng
    repeat' (first | refine CW.seq ?_ | refine CW.block ?_ | refine CW.skip ?_ | refine CW.exit ?_ | refine CW.ret ?_ | refine CW.regionF (by kernel_rfl) ?_ | refine CW.drawsT mixed (by kernel_rfl) ?_ | refine CW.condT ?_ | refine CW.condF ?_ | refine OW.skip (by rfl) (List.cons_ne_nil _ _) (fun _ => ?_) | refine OW.nil ?_ | refine OW.gT ?_ | refine OW.gF ?_ | refine OW.gF0 ?_ | refine OW.w (by constructor; omega; omega) ?_ | refine OW.decT (by omega) ?_ | refine OW.decF (by omega) ?_ | refine OW.dec (fun _ => ?_) (fun _ => ?_) | refine OW.p ?_ | refine OW.p0 ?_ | refine OW.ix (by constructor; omega; omega) ?_ | refine OW.ixA (by constructor; omega; omega) ?_ | refine OW.a (fun _ => ?_) | refine OW.u ?_ | refine RW.skip (by rfl) (List.cons_ne_nil _ _) (fun _ => ?_) | refine RW.nil ?_ | refine RW.gF ?_ | refine RW.gF0 ?_ | refine RW.w (by constructor; omega; omega) rfl ?_ | refine RW.decT (by omega) rfl ?_ | refine RW.decF (by omega) rfl ?_ | refine RW.dec rfl (fun _ => ?_) (fun _ => ?_) | refine RW.p rfl ?_ | refine RW.p0 rfl ?_ | refine RW.ix (by constructor; omega; omega) ?_ | refine RW.ixA (by constructor; omega; omega) ?_ | refine RW.a rfl (fun _ => ?_) | refine RW.u rfl ?_ | refine thenK_n ?_ | refine thenK_ret ?_ | refine thenK_exit ?_ | refine blockK_n ?_ | refine blockK_ret ?_ | refine blockK_same ?_ | refine blockK_other ?_ | refine loopK_n ?_ | refine loopK_ret ?_ | refine loopK_exit ?_)
    rw [show ((0 : Int) + 1 + 1).toNat = 2 from rfl]
    repeat' (first | refine CW.seq ?_ | refine CW.block ?_ | refine CW.skip ?_ | refine CW.exit ?_ | refine CW.ret ?_ | refine CW.regionF (by kernel_rfl) ?_ | refine CW.drawsT mixed (by kernel_rfl) ?_ | refine CW.condT ?_ | refine CW.condF ?_ | refine OW.skip (by rfl) (List.cons_ne_nil _ _) (fun _ => ?_) | refine OW.nil ?_ | refine OW.gT ?_ | refine OW.gF ?_ | refine OW.gF0 ?_ | refine OW.w (by constructor; omega; omega) ?_ | refine OW.decT (by omega) ?_ | refine OW.decF (by omega) ?_ | refine OW.dec (fun _ => ?_) (fun _ => ?_) | refine OW.p ?_ | refine OW.p0 ?_ | refine OW.ix (by constructor; omega; omega) ?_ | refine OW.ixA (by constructor; omega; omega) ?_ | refine OW.a (fun _ => ?_) | refine OW.u ?_ | refine RW.skip (by rfl) (List.cons_ne_nil _ _) (fun _ => ?_) | refine RW.nil ?_ | refine RW.gF ?_ | refine RW.gF0 ?_ | refine RW.w (by constructor; omega; omega) rfl ?_ | refine RW.decT (by omega) rfl ?_ | refine RW.decF (by omega) rfl ?_ | refine RW.dec rfl (fun _ => ?_) (fun _ => ?_) | refine RW.p rfl ?_ | refine RW.p0 rfl ?_ | refine RW.ix (by constructor; omega; omega) ?_ | refine RW.ixA (by constructor; omega; omega) ?_ | refine RW.a rfl (fun _ => ?_) | refine RW.u rfl ?_ | refine thenK_n ?_ | refine thenK_ret ?_ | refine thenK_exit ?_ | refine blockK_n ?_ | refine blockK_ret ?_ | refine blockK_same ?_ | refine blockK_other ?_ | refine loopK_n ?_ | refine loopK_ret ?_ | refine loopK_exit ?_)
    refine OW.callX (read_call br b3 v3 xs3 D _ (.int .i64 k) (.int .i64 0) (.int .i64 0) (.int .i64 a2) (.int .i64 a3) (.int .i64 g3) (.int .i64 0) (.int .u32 0) (.int .u64 0) (.int .u64 0) (.int .u64 0) (.slice none 0 0) (.slice none 0 0) hv3 (by omega)) ?_ ?_
    · rintro _ _ ⟨h, rfl, rfl⟩
      repeat' (first | refine thenK_p ?_ | refine blockK_p ?_ | refine loopK_p ?_ | refine scopeK_p ?_)
      exact bodyK.pnc (A ++ [] ++ B) ⟨tpN5b e1 hk e2 e3 h, rfl, rfl⟩
    rintro _ _ ⟨N4, v4, o4, u4, xs4, rfl, hv4, e4, le4, r04, r14, r24, r34, r44, hu4⟩
    have su4 := hu4.sng
    have s4 := hv4.sng
    repeat' (first | refine CW.seq ?_ | refine CW.block ?_ | refine CW.skip ?_ | refine CW.exit ?_ | refine CW.ret ?_ | refine CW.regionF (by kernel_rfl) ?_ | refine CW.drawsT mixed (by kernel_rfl) ?_ | refine CW.condT ?_ | refine CW.condF ?_ | refine OW.skip (by rfl) (List.cons_ne_nil _ _) (fun _ => ?_) | refine OW.nil ?_ | refine OW.gT ?_ | refine OW.gF ?_ | refine OW.gF0 ?_ | refine OW.w (by constructor; omega; omega) ?_ | refine OW.decT (by omega) ?_ | refine OW.decF (by omega) ?_ | refine OW.dec (fun _ => ?_) (fun _ => ?_) | refine OW.p ?_ | refine OW.p0 ?_ | refine OW.ix (by constructor; omega; omega) ?_ | refine OW.ixA (by constructor; omega; omega) ?_ | refine OW.a (fun _ => ?_) | refine OW.u ?_ | refine RW.skip (by rfl) (List.cons_ne_nil _ _) (fun _ => ?_) | refine RW.nil ?_ | refine RW.gF ?_ | refine RW.gF0 ?_ | refine RW.w (by constructor; omega; omega) rfl ?_ | refine RW.decT (by omega) rfl ?_ | refine RW.decF (by omega) rfl ?_ | refine RW.dec rfl (fun _ => ?_) (fun _ => ?_) | refine RW.p rfl ?_ | refine RW.p0 rfl ?_ | refine RW.ix (by constructor; omega; omega) ?_ | refine RW.ixA (by constructor; omega; omega) ?_ | refine RW.a rfl (fun _ => ?_) | refine RW.u rfl ?_ | refine thenK_n ?_ | refine thenK_ret ?_ | refine thenK_exit ?_ | refine blockK_n ?_ | refine blockK_ret ?_ | refine blockK_same ?_ | refine blockK_other ?_ | refine loopK_n ?_ | refine loopK_ret ?_ | refine loopK_exit ?_)
    refine bodyK.retD (N4 ++ (A ++ [rds br v4] ++ B)) (Res.of1 Tryz.results46) ?_
    exact ⟨N4, ⟨k, 0, 0, a2, a3, g3, o4.okind, o4.oat, o4.osize, o4.omult, o4.omany, o4.obytes, []⟩, _, _, v4, xs4, rfl, rfl, hu4, BS.nil _, TR.lit ⟨by omega, by omega⟩ ⟨by omega, by omega⟩ ⟨by omega, by omega⟩ ⟨by have := ra2.1; omega, by have := ra2.2; omega⟩ ⟨by have := ra3.1; omega, by have := ra3.2; omega⟩ ⟨by have := rg3.1; omega, by have := rg3.2; omega⟩ ⟨by have := r04.1; omega, by have := r04.2; omega⟩ r14 r24 r34 r44, hv4, tpS5 e1 hk e2 e3 e4⟩
  · refine RW.y (lookOk (findN6 p1' p2 p3 p4 p5 p6 hk)) rfl ?_
    repeat' (first | refine CW.seq ?_ | refine CW.block ?_ | refine CW.skip ?_ | refine CW.exit ?_ | refine CW.ret ?_ | refine CW.regionF (by kernel_rfl) ?_ | refine CW.drawsT mixed (by kernel_rfl) ?_ | refine CW.condT ?_ | refine CW.condF ?_ | refine OW.skip (by rfl) (List.cons_ne_nil _ _) (fun _ => ?_) | refine OW.nil ?_ | refine OW.gT ?_ | refine OW.gF ?_ | refine OW.gF0 ?_ | refine OW.w (by constructor; omega; omega) ?_ | refine OW.decT (by omega) ?_ | refine OW.decF (by omega) ?_ | refine OW.dec (fun _ => ?_) (fun _ => ?_) | refine OW.p ?_ | refine OW.p0 ?_ | refine OW.ix (by constructor; omega; omega) ?_ | refine OW.ixA (by constructor; omega; omega) ?_ | refine OW.a (fun _ => ?_) | refine OW.u ?_ | refine RW.skip (by rfl) (List.cons_ne_nil _ _) (fun _ => ?_) | refine RW.nil ?_ | refine RW.gF ?_ | refine RW.gF0 ?_ | refine RW.w (by constructor; omega; omega) rfl ?_ | refine RW.decT (by omega) rfl ?_ | refine RW.decF (by omega) rfl ?_ | refine RW.dec rfl (fun _ => ?_) (fun _ => ?_) | refine RW.p rfl ?_ | refine RW.p0 rfl ?_ | refine RW.ix (by constructor; omega; omega) ?_ | refine RW.ixA (by constructor; omega; omega) ?_ | refine RW.a rfl (fun _ => ?_) | refine RW.u rfl ?_ | refine thenK_n ?_ | refine thenK_ret ?_ | refine thenK_exit ?_ | refine blockK_n ?_ | refine blockK_ret ?_ | refine blockK_same ?_ | refine blockK_other ?_ | refine loopK_n ?_ | refine loopK_ret ?_ | refine loopK_exit ?_)
    refine OW.callX (must true 380 _) (fun _ _ h => (by cases h.1)) ?_
    rintro _ _ ⟨_, rfl⟩
    repeat' (first | refine CW.seq ?_ | refine CW.block ?_ | refine CW.skip ?_ | refine CW.exit ?_ | refine CW.ret ?_ | refine CW.regionF (by kernel_rfl) ?_ | refine CW.drawsT mixed (by kernel_rfl) ?_ | refine CW.condT ?_ | refine CW.condF ?_ | refine OW.skip (by rfl) (List.cons_ne_nil _ _) (fun _ => ?_) | refine OW.nil ?_ | refine OW.gT ?_ | refine OW.gF ?_ | refine OW.gF0 ?_ | refine OW.w (by constructor; omega; omega) ?_ | refine OW.decT (by omega) ?_ | refine OW.decF (by omega) ?_ | refine OW.dec (fun _ => ?_) (fun _ => ?_) | refine OW.p ?_ | refine OW.p0 ?_ | refine OW.ix (by constructor; omega; omega) ?_ | refine OW.ixA (by constructor; omega; omega) ?_ | refine OW.a (fun _ => ?_) | refine OW.u ?_ | refine RW.skip (by rfl) (List.cons_ne_nil _ _) (fun _ => ?_) | refine RW.nil ?_ | refine RW.gF ?_ | refine RW.gF0 ?_ | refine RW.w (by constructor; omega; omega) rfl ?_ | refine RW.decT (by omega) rfl ?_ | refine RW.decF (by omega) rfl ?_ | refine RW.dec rfl (fun _ => ?_) (fun _ => ?_) | refine RW.p rfl ?_ | refine RW.p0 rfl ?_ | refine RW.ix (by constructor; omega; omega) ?_ | refine RW.ixA (by constructor; omega; omega) ?_ | refine RW.a rfl (fun _ => ?_) | refine RW.u rfl ?_ | refine thenK_n ?_ | refine thenK_ret ?_ | refine thenK_exit ?_ | refine blockK_n ?_ | refine blockK_ret ?_ | refine blockK_same ?_ | refine blockK_other ?_ | refine loopK_n ?_ | refine loopK_ret ?_ | refine loopK_exit ?_)
    refine CW.loopU 3 ?_
    repeat' (first | refine CW.seq ?_ | refine CW.block ?_ | refine CW.skip ?_ | refine CW.exit ?_ | refine CW.ret ?_ | refine CW.regionF (by kernel_rfl) ?_ | refine CW.drawsT mixed (by kernel_rfl) ?_ | refine CW.condT ?_ | refine CW.condF ?_ | refine OW.skip (by rfl) (List.cons_ne_nil _ _) (fun _ => ?_) | refine OW.nil ?_ | refine OW.gT ?_ | refine OW.gF ?_ | refine OW.gF0 ?_ | refine OW.w (by constructor; omega; omega) ?_ | refine OW.decT (by omega) ?_ | refine OW.decF (by omega) ?_ | refine OW.dec (fun _ => ?_) (fun _ => ?_) | refine OW.p ?_ | refine OW.p0 ?_ | refine OW.ix (by constructor; omega; omega) ?_ | refine OW.ixA (by constructor; omega; omega) ?_ | refine OW.a (fun _ => ?_) | refine OW.u ?_ | refine RW.skip (by rfl) (List.cons_ne_nil _ _) (fun _ => ?_) | refine RW.nil ?_ | refine RW.gF ?_ | refine RW.gF0 ?_ | refine RW.w (by constructor; omega; omega) rfl ?_ | refine RW.decT (by omega) rfl ?_ | refine RW.decF (by omega) rfl ?_ | refine RW.dec rfl (fun _ => ?_) (fun _ => ?_) | refine RW.p rfl ?_ | refine RW.p0 rfl ?_ | refine RW.ix (by constructor; omega; omega) ?_ | refine RW.ixA (by constructor; omega; omega) ?_ | refine RW.a rfl (fun _ => ?_) | refine RW.u rfl ?_ | refine thenK_n ?_ | refine thenK_ret ?_ | refine thenK_exit ?_ | refine blockK_n ?_ | refine blockK_ret ?_ | refine blockK_same ?_ | refine blockK_other ?_ | refine loopK_n ?_ | refine loopK_ret ?_ | refine loopK_exit ?_)
    refine OW.callX (read_thread br b3 v1 xs1 D _ (.int .i64 k) (.int .i64 0) (.int .i64 0) (.int .i64 0) (.int .i64 0) (.int .i64 0) (.int .i64 0) (.int .u32 0) (.int .u64 0) (.int .u64 0) (.int .u64 0) (.slice none 0 0) (.slice none 0 0) hv1 (by omega)) ?_ ?_
    · rintro _ _ ⟨h, rfl, rfl⟩
      repeat' (first | refine thenK_p ?_ | refine blockK_p ?_ | refine loopK_p ?_ | refine scopeK_p ?_)
      exact bodyK.pnc (A ++ [] ++ B) ⟨tpN6 e1 hk h, rfl, rfl⟩
    rintro _ _ ⟨N2, v2, a2, xs2, rfl, hv2, e2, le2, ra2⟩
    have s2 := hv2.sng
    repeat' (first | refine CW.seq ?_ | refine CW.block ?_ | refine CW.skip ?_ | refine CW.exit ?_ | refine CW.ret ?_ | refine CW.regionF (by kernel_rfl) ?_ | refine CW.drawsT mixed (by kernel_rfl) ?_ | refine CW.condT ?_ | refine CW.condF ?_ | refine OW.skip (by rfl) (List.cons_ne_nil _ _) (fun _ => ?_) | refine OW.nil ?_ | refine OW.gT ?_ | refine OW.gF ?_ | refine OW.gF0 ?_ | refine OW.w (by constructor; omega; omega) ?_ | refine OW.decT (by omega) ?_ | refine OW.decF (by omega) ?_ | refine OW.dec (fun _ => ?_) (fun _ => ?_) | refine OW.p ?_ | refine OW.p0 ?_ | refine OW.ix (by constructor; omega; omega) ?_ | refine OW.ixA (by constructor; omega; omega) ?_ | refine OW.a (fun _ => ?_) | refine OW.u ?_ | refine RW.skip (by rfl) (List.cons_ne_nil _ _) (fun _ => ?_) | refine RW.nil ?_ | refine RW.gF ?_ | refine RW.gF0 ?_ | refine RW.w (by constructor; omega; omega) rfl ?_ | refine RW.decT (by omega) rfl ?_ | refine RW.decF (by omega) rfl ?_ | refine RW.dec rfl (fun _ => ?_) (fun _ => ?_) | refine RW.p rfl ?_ | refine RW.p0 rfl ?_ | refine RW.ix (by constructor; omega; omega) ?_ | refine RW.ixA (by constructor; omega; omega) ?_ | refine RW.a rfl (fun _ => ?_) | refine RW.u rfl ?_ | refine thenK_n ?_ | refine thenK_ret ?_ | refine thenK_exit ?_ | refine blockK_n ?_ | refine blockK_ret ?_ | refine blockK_same ?_ | refine blockK_other ?_ | refine loopK_n ?_ | refine loopK_ret ?_ | refine loopK_exit ?_)
    rw [show ((0 : Int) + 1).toNat = 1 from rfl]
    repeat' (first | refine CW.seq ?_ | refine CW.block ?_ | refine CW.skip ?_ | refine CW.exit ?_ | refine CW.ret ?_ | refine CW.regionF (by kernel_rfl) ?_ | refine CW.drawsT mixed (by kernel_rfl) ?_ | refine CW.condT ?_ | refine CW.condF ?_ | refine OW.skip (by rfl) (List.cons_ne_nil _ _) (fun _ => ?_) | refine OW.nil ?_ | refine OW.gT ?_ | refine OW.gF ?_ | refine OW.gF0 ?_ | refine OW.w (by constructor; omega; omega) ?_ | refine OW.decT (by omega) ?_ | refine OW.decF (by omega) ?_ | refine OW.dec (fun _ => ?_) (fun _ => ?_) | refine OW.p ?_ | refine OW.p0 ?_ | refine OW.ix (by constructor; omega; omega) ?_ | refine OW.ixA (by constructor; omega; omega) ?_ | refine OW.a (fun _ => ?_) | refine OW.u ?_ | refine RW.skip (by rfl) (List.cons_ne_nil _ _) (fun _ => ?_) | refine RW.nil ?_ | refine RW.gF ?_ | refine RW.gF0 ?_ | refine RW.w (by constructor; omega; omega) rfl ?_ | refine RW.decT (by omega) rfl ?_ | refine RW.decF (by omega) rfl ?_ | refine RW.dec rfl (fun _ => ?_) (fun _ => ?_) | refine RW.p rfl ?_ | refine RW.p0 rfl ?_ | refine RW.ix (by constructor; omega; omega) ?_ | refine RW.ixA (by constructor; omega; omega) ?_ | refine RW.a rfl (fun _ => ?_) | refine RW.u rfl ?_ | refine thenK_n ?_ | refine thenK_ret ?_ | refine thenK_exit ?_ | refine blockK_n ?_ | refine blockK_ret ?_ | refine blockK_same ?_ | refine blockK_other ?_ | refine loopK_n ?_ | refine loopK_ret ?_ | refine loopK_exit ?_)
    refine OW.callX (read_draws br b3 v2 xs2 D _ (.int .i64 k) (.int .i64 0) (.int .i64 0) (.int .i64 a2) (.int .i64 0) (.int .i64 0) (.int .i64 0) (.int .u32 0) (.int .u64 0) (.int .u64 0) (.int .u64 0) (.slice none 0 0) (.slice none 0 0) hv2 (by omega)) ?_ ?_
    · rintro _ _ ⟨h, rfl, rfl⟩
      repeat' (first | refine thenK_p ?_ | refine blockK_p ?_ | refine loopK_p ?_ | refine scopeK_p ?_)
      exact bodyK.pnc (A ++ [] ++ B) ⟨tpN6a e1 hk e2 h, rfl, rfl⟩
    rintro _ _ ⟨N3, v3, u3, a3, xs3, rfl, hv3, e3, le3, hu3⟩
    have su3 := hu3.sng
    have s3 := hv3.sng
    repeat' (first | refine CW.seq ?_ | refine CW.block ?_ | refine CW.skip ?_ | refine CW.exit ?_ | refine CW.ret ?_ | refine CW.regionF (by kernel_rfl) ?_ | refine CW.drawsT mixed (by kernel_rfl) ?_ | refine CW.condT ?_ | refine CW.condF ?_ | refine OW.skip (by rfl) (List.cons_ne_nil _ _) (fun _ => ?_) | refine OW.nil ?_ | refine OW.gT ?_ | refine OW.gF ?_ | refine OW.gF0 ?_ | refine OW.w (by constructor; omega; omega) ?_ | refine OW.decT (by omega) ?_ | refine OW.decF (by omega) ?_ | refine OW.dec (fun _ => ?_) (fun _ => ?_) | refine OW.p ?_ | refine OW.p0 ?_ | refine OW.ix (by constructor; omega; omega) ?_ | refine OW.ixA (by constructor; omega; omega) ?_ | refine OW.a (fun _ => ?_) | refine OW.u ?_ | refine RW.skip (by rfl) (List.cons_ne_nil _ _) (fun _ => ?_) | refine RW.nil ?_ | refine RW.gF ?_ | refine RW.gF0 ?_ | refine RW.w (by constructor; omega; omega) rfl ?_ | refine RW.decT (by omega) rfl ?_ | refine RW.decF (by omega) rfl ?_ | refine RW.dec rfl (fun _ => ?_) (fun _ => ?_) | refine RW.p rfl ?_ | refine RW.p0 rfl ?_ | refine RW.ix (by constructor; omega; omega) ?_ | refine RW.ixA (by constructor; omega; omega) ?_ | refine RW.a rfl (fun _ => ?_) | refine RW.u rfl ?_ | refine thenK_n ?_ | refine thenK_ret ?_ | refine thenK_exit ?_ | refine blockK_n ?_ | refine blockK_ret ?_ | refine blockK_same ?_ | refine blockK_other ?_ | refine loopK_n ?_ | refine loopK_ret ?_ | refine loopK_exit ?_)
    refine bodyK.retD (N3 ++ (A ++ [rds br v3] ++ B)) (Res.of1 Tryz.results46) ?_
    exact ⟨N3, ⟨k, 0, 0, a2, 0, 0, 0, 0, 0, 0, 0, [], a3⟩, _, _, v3, xs3, rfl, rfl, BS.nil _, hu3, TR.lit ⟨by omega, by omega⟩ ⟨by omega, by omega⟩ ⟨by omega, by omega⟩ ⟨by have := ra2.1; omega, by have := ra2.2; omega⟩ ⟨by omega, by omega⟩ ⟨by omega, by omega⟩ ⟨by omega, by omega⟩ ⟨by omega, by omega⟩ ⟨by omega, by omega⟩ ⟨by omega, by omega⟩ ⟨by omega, by omega⟩, hv3, tpS6 e1 hk e2 e3⟩
  · refine RW.y (lookOk0 (b1 := p1') (b2 := p2) (b3 := p3) (b4 := p4) (b5 := p5) (b6 := p6) hk) rfl ?_
    repeat' (first | refine CW.seq ?_ | refine CW.block ?_ | refine CW.skip ?_ | refine CW.exit ?_ | refine CW.ret ?_ | refine CW.regionF (by kernel_rfl) ?_ | refine CW.drawsT mixed (by kernel_rfl) ?_ | refine CW.condT ?_ | refine CW.condF ?_ | refine OW.skip (by rfl) (List.cons_ne_nil _ _) (fun _ => ?_) | refine OW.nil ?_ | refine OW.gT ?_ | refine OW.gF ?_ | refine OW.gF0 ?_ | refine OW.w (by constructor; omega; omega) ?_ | refine OW.decT (by omega) ?_ | refine OW.decF (by omega) ?_ | refine OW.dec (fun _ => ?_) (fun _ => ?_) | refine OW.p ?_ | refine OW.p0 ?_ | refine OW.ix (by constructor; omega; omega) ?_ | refine OW.ixA (by constructor; omega; omega) ?_ | refine OW.a (fun _ => ?_) | refine OW.u ?_ | refine RW.skip (by rfl) (List.cons_ne_nil _ _) (fun _ => ?_) | refine RW.nil ?_ | refine RW.gF ?_ | refine RW.gF0 ?_ | refine RW.w (by constructor; omega; omega) rfl ?_ | refine RW.decT (by omega) rfl ?_ | refine RW.decF (by omega) rfl ?_ | refine RW.dec rfl (fun _ => ?_) (fun _ => ?_) | refine RW.p rfl ?_ | refine RW.p0 rfl ?_ | refine RW.ix (by constructor; omega; omega) ?_ | refine RW.ixA (by constructor; omega; omega) ?_ | refine RW.a rfl (fun _ => ?_) | refine RW.u rfl ?_ | refine thenK_n ?_ | refine thenK_ret ?_ | refine thenK_exit ?_ | refine blockK_n ?_ | refine blockK_ret ?_ | refine blockK_same ?_ | refine blockK_other ?_ | refine loopK_n ?_ | refine loopK_ret ?_ | refine loopK_exit ?_)
    refine OW.callX (must false 380 _) ?_ (fun _ _ h => (by cases h.1))
    rintro _ _ ⟨_, rfl, rfl⟩
    repeat' (first | refine thenK_p ?_ | refine blockK_p ?_ | refine loopK_p ?_ | refine scopeK_p ?_)
    exact bodyK.pnc (A ++ [] ++ B) ⟨tpBad e1 hk, rfl, rfl⟩
end Go.Proofs.YtlfdaepkoagnbaaGreat

namespace Go.Proofs.YtlfdaepkoagnbaaGreat
open Go Go.Pw Go.Pw.Sc
set_option maxRecDepth 100000
set_option maxHeartbeats 4000000
set_option synthInstance.maxHeartbeats 400000
set_option synthInstance.maxSize 2000
attribute [local irreducible] CW OW RW thenK blockK
attribute [local irreducible] scopeK loopK


theorem sturns23 (br : Nat) (L : Chunk) : Fn1 Tryz.prog 23 [.pointer (some ⟨br, 0, none⟩)] L (fun u L' => ∃ bb, u = .func (.func 45) #[] #[.pointer (some ⟨bb, 0, none⟩)] ∧ L' = (bb, .cells #[.pointer (some ⟨br, 0, none⟩)] 57 (0, 0)) :: L) := by
  intro w0; refine Spec.enter1 Tryz.func23 rfl Tryz.ntmps23 (by decide) ?_
  repeat' (first | refine CW.seq ?_ | refine CW.block ?_ | refine CW.skip ?_ | refine CW.exit ?_ | refine CW.ret ?_ | refine CW.regionF (by kernel_rfl) ?_ | refine CW.condT ?_ | refine CW.condF ?_ | refine OW.skip (by rfl) (List.cons_ne_nil _ _) (fun _ => ?_) | refine OW.nil ?_ | refine OW.gT ?_ | refine OW.gF ?_ | refine OW.gF0 ?_ | refine OW.w (by constructor; omega; omega) ?_ | refine OW.decT (by omega) ?_ | refine OW.decF (by omega) ?_ | refine OW.dec (fun _ => ?_) (fun _ => ?_) | refine OW.p ?_ | refine OW.p0 ?_ | refine OW.ix (by constructor; omega; omega) ?_ | refine OW.ixA (by constructor; omega; omega) ?_ | refine OW.a (fun _ => ?_) | refine OW.u ?_ | refine thenK_n ?_ | refine thenK_ret ?_ | refine thenK_exit ?_ | refine blockK_n ?_ | refine blockK_ret ?_ | refine blockK_same ?_ | refine blockK_other ?_)
  exact bodyK.ret (Res.one Tryz.results23) ⟨_, rfl, rfl⟩

theorem sturns45 (fv : Value) (bb br : Nat) (J : Value → List Int → Chunk → Prop) (PN : Chunk → Prop) (L : Chunk) (v : Value) (xs : List Int) (hJ : J v xs L)
    (hk : ∀ v xs L', J v xs L' → ∃ C D, At L' [rds br v] C ∧ MemC D (C []) ∧ BS D v xs ∧ InC L' bb (.cells #[.pointer (some ⟨br, 0, none⟩)] 57 (0, 0)) ∧ xs.length ≤ 65536 ∧
      (∀ N t vb vd v' xs', BS N vb t.obytes → BS N vd t.draws → TR t → BS D v' xs' → turnP xs = some (t, xs') → VP Tryz.prog fv [.agg (tcells t vb vd).toArray] (N ++ C [rds br v']) (fun u L'' => u = .bool true ∧ J v' xs' L'') noPanic) ∧
      (turnP xs = none → xs ≠ [] → PN (C []))) :
    FnP Tryz.prog 45 [fv, .pointer (some ⟨bb, 0, none⟩)] L (fun _ L' => ∃ v, J v [] L') (fun ch L' => ch = pnc 380 ∧ PN L') := by
  intro w0; refine Spec.enter2 Tryz.func45 rfl Tryz.ntmps45 (by decide) ?_
  repeat' (first | refine CW.seq ?_ | refine CW.block ?_ | refine CW.skip ?_ | refine CW.exit ?_ | refine CW.ret ?_ | refine CW.regionF (by kernel_rfl) ?_ | refine CW.condT ?_ | refine CW.condF ?_ | refine OW.skip (by rfl) (List.cons_ne_nil _ _) (fun _ => ?_) | refine OW.nil ?_ | refine OW.gT ?_ | refine OW.gF ?_ | refine OW.gF0 ?_ | refine OW.w (by constructor; omega; omega) ?_ | refine OW.decT (by omega) ?_ | refine OW.decF (by omega) ?_ | refine OW.dec (fun _ => ?_) (fun _ => ?_) | refine OW.p ?_ | refine OW.p0 ?_ | refine OW.ix (by constructor; omega; omega) ?_ | refine OW.ixA (by constructor; omega; omega) ?_ | refine OW.a (fun _ => ?_) | refine OW.u ?_ | refine thenK_n ?_ | refine thenK_ret ?_ | refine thenK_exit ?_ | refine blockK_n ?_ | refine blockK_ret ?_ | refine blockK_same ?_ | refine blockK_other ?_)
  refine CW.loop (fun m ρ ds L' => ds = [] ∧ (∃ v xs, J v xs L' ∧ m = xs.length) ∧ Ev ρ 0 fv ∧ Ev ρ 1 (.pointer (some ⟨bb, 0, none⟩))) xs.length ⟨rfl, ⟨v, xs, hJ, rfl⟩, inferInstance, inferInstance⟩ ?_
  clear hJ v xs
  rintro m ρ ds L' ⟨rfl, ⟨v, xs, hJ, rfl⟩, e0, e1⟩
  obtain ⟨C, D, hat, hD, hv, hin, hl, hy, hp⟩ := hk v xs L' hJ
  have hv0 := hv
  have hinr : InC L' br (.cells #[v] 61 (0, 0)) := ⟨by obtain ⟨A, B, e, _⟩ := hat.out; rw [e]; simp⟩
  obtain ⟨va, vc, rfl⟩ := hv.slice
  by_cases hx : 0 < xs.length
  · have hne : xs ≠ [] := fun e => by rw [e] at hx; simp at hx
    repeat' (first | refine CW.seq ?_ | refine CW.block ?_ | refine CW.skip ?_ | refine CW.exit ?_ | refine CW.ret ?_ | refine CW.regionF (by kernel_rfl) ?_ | refine CW.condT ?_ | refine CW.condF ?_ | refine OW.skip (by rfl) (List.cons_ne_nil _ _) (fun _ => ?_) | refine OW.nil ?_ | refine OW.gT ?_ | refine OW.gF ?_ | refine OW.gF0 ?_ | refine OW.w (by constructor; omega; omega) ?_ | refine OW.decT (by omega) ?_ | refine OW.decF (by omega) ?_ | refine OW.dec (fun _ => ?_) (fun _ => ?_) | refine OW.p ?_ | refine OW.p0 ?_ | refine OW.ix (by constructor; omega; omega) ?_ | refine OW.ixA (by constructor; omega; omega) ?_ | refine OW.a (fun _ => ?_) | refine OW.u ?_ | refine thenK_n ?_ | refine thenK_ret ?_ | refine thenK_exit ?_ | refine blockK_n ?_ | refine blockK_ret ?_ | refine blockK_same ?_ | refine blockK_other ?_)
    refine OW.callX (sturn46 br _ xs D _ hv0 hl) ?_ ?_
    · rintro _ _ ⟨h, rfl, rfl⟩
      repeat' (first | refine thenK_p ?_ | refine blockK_p ?_ | refine loopK_p ?_ | refine scopeK_p ?_)
      exact bodyK.pnc (C []) ⟨rfl, hp h hne⟩
    rintro _ _ ⟨N, t, vb, vd, v', xs', rfl, rfl, hb, hd, htr, hv', htp⟩
    repeat' (first | refine CW.seq ?_ | refine CW.block ?_ | refine CW.skip ?_ | refine CW.exit ?_ | refine CW.ret ?_ | refine CW.regionF (by kernel_rfl) ?_ | refine CW.condT ?_ | refine CW.condF ?_ | refine OW.skip (by rfl) (List.cons_ne_nil _ _) (fun _ => ?_) | refine OW.nil ?_ | refine OW.gT ?_ | refine OW.gF ?_ | refine OW.gF0 ?_ | refine OW.w (by constructor; omega; omega) ?_ | refine OW.decT (by omega) ?_ | refine OW.decF (by omega) ?_ | refine OW.dec (fun _ => ?_) (fun _ => ?_) | refine OW.p ?_ | refine OW.p0 ?_ | refine OW.ix (by constructor; omega; omega) ?_ | refine OW.ixA (by constructor; omega; omega) ?_ | refine OW.a (fun _ => ?_) | refine OW.u ?_ | refine thenK_n ?_ | refine thenK_ret ?_ | refine thenK_exit ?_ | refine blockK_n ?_ | refine blockK_ret ?_ | refine blockK_same ?_ | refine blockK_other ?_)
    refine OW.callV1 (hy N t vb vd v' xs' hb hd htr hv' htp) ?_
    rintro _ L'' ⟨rfl, hJ'⟩
    repeat' (first | refine CW.seq ?_ | refine CW.block ?_ | refine CW.skip ?_ | refine CW.exit ?_ | refine CW.ret ?_ | refine CW.regionF (by kernel_rfl) ?_ | refine CW.condT ?_ | refine CW.condF ?_ | refine OW.skip (by rfl) (List.cons_ne_nil _ _) (fun _ => ?_) | refine OW.nil ?_ | refine OW.gT ?_ | refine OW.gF ?_ | refine OW.gF0 ?_ | refine OW.w (by constructor; omega; omega) ?_ | refine OW.decT (by omega) ?_ | refine OW.decF (by omega) ?_ | refine OW.dec (fun _ => ?_) (fun _ => ?_) | refine OW.p ?_ | refine OW.p0 ?_ | refine OW.ix (by constructor; omega; omega) ?_ | refine OW.ixA (by constructor; omega; omega) ?_ | refine OW.a (fun _ => ?_) | refine OW.u ?_ | refine thenK_n ?_ | refine thenK_ret ?_ | refine thenK_exit ?_ | refine blockK_n ?_ | refine blockK_ret ?_ | refine blockK_same ?_ | refine blockK_other ?_)
    exact ⟨xs'.length, turnP_lt htp, rfl, ⟨v', xs', hJ', rfl⟩, inferInstance, inferInstance⟩
  · have hxn : xs = [] := List.eq_nil_of_length_eq_zero (by omega)
    subst hxn
    repeat' (first | refine CW.seq ?_ | refine CW.block ?_ | refine CW.skip ?_ | refine CW.exit ?_ | refine CW.ret ?_ | refine CW.regionF (by kernel_rfl) ?_ | refine CW.condT ?_ | refine CW.condF ?_ | refine OW.skip (by rfl) (List.cons_ne_nil _ _) (fun _ => ?_) | refine OW.nil ?_ | refine OW.gT ?_ | refine OW.gF ?_ | refine OW.gF0 ?_ | refine OW.w (by constructor; omega; omega) ?_ | refine OW.decT (by omega) ?_ | refine OW.decF (by omega) ?_ | refine OW.dec (fun _ => ?_) (fun _ => ?_) | refine OW.p ?_ | refine OW.p0 ?_ | refine OW.ix (by constructor; omega; omega) ?_ | refine OW.ixA (by constructor; omega; omega) ?_ | refine OW.a (fun _ => ?_) | refine OW.u ?_ | refine thenK_n ?_ | refine thenK_ret ?_ | refine thenK_exit ?_ | refine blockK_n ?_ | refine blockK_ret ?_ | refine blockK_same ?_ | refine blockK_other ?_)
    exact bodyK.nrm (Res.zero Tryz.results45) ⟨_, hJ⟩

theorem dec1clr (bo : Nat) (c : List Value) (L : Chunk) {L1 : Chunk} (hc : c.length = 5) [hin : InC L bo (.cells c.toArray 28 (0, 0))] [hup : UpdC L bo (.cells #[.int .i64 0, .int .u64 0, .int .i64 0, .int .i64 0, .slice none 0 0] 28 (0, 0)) L1] :
    Fn1 Tryz.prog 18 [.pointer (some ⟨bo, 0, none⟩)] L (fun _ L' => L' = L1) := by
  intro w0; refine Spec.enter1 Tryz.func18 rfl Tryz.ntmps18 (by decide) ?_
  obtain ⟨c0, c1, c2, c3, c4, rfl⟩ : ∃ c0 c1 c2 c3 c4, c = [c0, c1, c2, c3, c4] := by
    rcases c with _ | ⟨c0, _ | ⟨c1, _ | ⟨c2, _ | ⟨c3, _ | ⟨c4, _ | ⟨c5, c⟩⟩⟩⟩⟩⟩ <;> simp at hc
    exact ⟨_, _, _, _, _, rfl⟩
  repeat' (first | refine CW.seq ?_ | refine CW.block ?_ | refine CW.skip ?_ | refine CW.exit ?_ | refine CW.ret ?_ | refine CW.regionF (by kernel_rfl) ?_ | refine CW.condT ?_ | refine CW.condF ?_ | refine OW.skip (by rfl) (List.cons_ne_nil _ _) (fun _ => ?_) | refine OW.nil ?_ | refine OW.gT ?_ | refine OW.gF ?_ | refine OW.gF0 ?_ | refine OW.w (by constructor; omega; omega) ?_ | refine OW.decT (by omega) ?_ | refine OW.decF (by omega) ?_ | refine OW.dec (fun _ => ?_) (fun _ => ?_) | refine OW.p ?_ | refine OW.p0 ?_ | refine OW.ix (by constructor; omega; omega) ?_ | refine OW.ixA (by constructor; omega; omega) ?_ | refine OW.a (fun _ => ?_) | refine OW.u ?_ | refine thenK_n ?_ | refine thenK_ret ?_ | refine thenK_exit ?_ | refine blockK_n ?_ | refine blockK_ret ?_ | refine blockK_same ?_ | refine blockK_other ?_)
  exact bodyK.nrm (Res.zero Tryz.results18) rfl
end Go.Proofs.YtlfdaepkoagnbaaGreat

namespace Go.Proofs.YtlfdaepkoagnbaaGreat
open Go Go.Pw Go.Pw.Sc
set_option maxRecDepth 100000
set_option maxHeartbeats 4000000
set_option synthInstance.maxHeartbeats 400000
set_option synthInstance.maxSize 2000
attribute [local irreducible] CW OW RW thenK blockK
attribute [local irreducible] scopeK loopK


theorem sdecode7 (vb : Value) (xs : List Int) (L : Chunk) (hb : BS L vb xs) :
    Fn1 Tryz.prog 7 [vb] L (fun v L' => ∃ N vt l no, v = .tuple #[.agg (lcells l vt).toArray, .int .i64 no] ∧ L' = N ++ L ∧ Sc.decode xs = (l, no) ∧ TS L' vt l.turns ∧ LR l) := by
  intro w0; refine Spec.enterM1 Tryz.func7 rfl Tryz.ntmps7 (by decide) ?_
  have sb := hb.sng
  have hb0 := hb
  obtain ⟨a, c, rfl⟩ := hb.slice
  have hlen := hb.len
  have zero : ∀ (no : Int), Sc.decode xs = (Life.zero, no) → ∃ N vt l no', Value.tuple #[.agg #[.int .i64 0, .int .u64 0, .int .i64 0, .int .i64 0, .slice none 0 0], .int .i64 no] = .tuple #[.agg (lcells l vt).toArray, .int .i64 no'] ∧ L = N ++ L ∧ Sc.decode xs = (l, no') ∧ TS L vt l.turns ∧ LR l := fun no h => ⟨[], .slice none 0 0, Life.zero, no, rfl, rfl, h, TS.nil _, LR.zero⟩
  repeat' (first | refine CW.seq ?_ | refine CW.block ?_ | refine CW.skip ?_ | refine CW.exit ?_ | refine CW.ret ?_ | refine CW.regionF (by kernel_rfl) ?_ | refine CW.condT ?_ | refine CW.condF ?_ | refine OW.skip (by rfl) (List.cons_ne_nil _ _) (fun _ => ?_) | refine OW.nil ?_ | refine OW.gT ?_ | refine OW.gF ?_ | refine OW.gF0 ?_ | refine OW.w (by constructor; omega; omega) ?_ | refine OW.decT (by omega) ?_ | refine OW.decF (by omega) ?_ | refine OW.dec (fun _ => ?_) (fun _ => ?_) | refine OW.p ?_ | refine OW.p0 ?_ | refine OW.ix (by constructor; omega; omega) ?_ | refine OW.ixA (by constructor; omega; omega) ?_ | refine OW.a (fun _ => ?_) | refine OW.u ?_ | refine thenK_n ?_ | refine thenK_ret ?_ | refine thenK_exit ?_ | refine blockK_n ?_ | refine blockK_ret ?_ | refine blockK_same ?_ | refine blockK_other ?_ | refine loopK_n ?_ | refine loopK_ret ?_ | refine loopK_exit ?_)
  rename_i b2 b3
  refine OW.defer ?_
  by_cases hlong : xs.length ≤ 65536
  · repeat' (first | refine CW.seq ?_ | refine CW.block ?_ | refine CW.skip ?_ | refine CW.exit ?_ | refine CW.ret ?_ | refine CW.regionF (by kernel_rfl) ?_ | refine CW.condT ?_ | refine CW.condF ?_ | refine OW.skip (by rfl) (List.cons_ne_nil _ _) (fun _ => ?_) | refine OW.nil ?_ | refine OW.gT ?_ | refine OW.gF ?_ | refine OW.gF0 ?_ | refine OW.w (by constructor; omega; omega) ?_ | refine OW.decT (by omega) ?_ | refine OW.decF (by omega) ?_ | refine OW.dec (fun _ => ?_) (fun _ => ?_) | refine OW.p ?_ | refine OW.p0 ?_ | refine OW.ix (by constructor; omega; omega) ?_ | refine OW.ixA (by constructor; omega; omega) ?_ | refine OW.a (fun _ => ?_) | refine OW.u ?_ | refine thenK_n ?_ | refine thenK_ret ?_ | refine thenK_exit ?_ | refine blockK_n ?_ | refine blockK_ret ?_ | refine blockK_same ?_ | refine blockK_other ?_ | refine loopK_n ?_ | refine loopK_ret ?_ | refine loopK_exit ?_)
    refine OW.callX (must true 3 _) (fun _ _ h => (by cases h.1)) ?_
    rintro _ _ ⟨_, rfl⟩
    repeat' (first | refine CW.seq ?_ | refine CW.block ?_ | refine CW.skip ?_ | refine CW.exit ?_ | refine CW.ret ?_ | refine CW.regionF (by kernel_rfl) ?_ | refine CW.condT ?_ | refine CW.condF ?_ | refine OW.skip (by rfl) (List.cons_ne_nil _ _) (fun _ => ?_) | refine OW.nil ?_ | refine OW.gT ?_ | refine OW.gF ?_ | refine OW.gF0 ?_ | refine OW.w (by constructor; omega; omega) ?_ | refine OW.decT (by omega) ?_ | refine OW.decF (by omega) ?_ | refine OW.dec (fun _ => ?_) (fun _ => ?_) | refine OW.p ?_ | refine OW.p0 ?_ | refine OW.ix (by constructor; omega; omega) ?_ | refine OW.ixA (by constructor; omega; omega) ?_ | refine OW.a (fun _ => ?_) | refine OW.u ?_ | refine thenK_n ?_ | refine thenK_ret ?_ | refine thenK_exit ?_ | refine blockK_n ?_ | refine blockK_ret ?_ | refine blockK_same ?_ | refine blockK_other ?_ | refine loopK_n ?_ | refine loopK_ret ?_ | refine loopK_exit ?_)
    refine OW.call (cloneB _ xs _ hb0.to (by omega)) ?_
    rintro u _ ⟨N0, rfl, hu⟩
    have su := hu.sng
    repeat' (first | refine CW.seq ?_ | refine CW.block ?_ | refine CW.skip ?_ | refine CW.exit ?_ | refine CW.ret ?_ | refine CW.regionF (by kernel_rfl) ?_ | refine CW.condT ?_ | refine CW.condF ?_ | refine OW.skip (by rfl) (List.cons_ne_nil _ _) (fun _ => ?_) | refine OW.nil ?_ | refine OW.gT ?_ | refine OW.gF ?_ | refine OW.gF0 ?_ | refine OW.w (by constructor; omega; omega) ?_ | refine OW.decT (by omega) ?_ | refine OW.decF (by omega) ?_ | refine OW.dec (fun _ => ?_) (fun _ => ?_) | refine OW.p ?_ | refine OW.p0 ?_ | refine OW.ix (by constructor; omega; omega) ?_ | refine OW.ixA (by constructor; omega; omega) ?_ | refine OW.a (fun _ => ?_) | refine OW.u ?_ | refine thenK_n ?_ | refine thenK_ret ?_ | refine thenK_exit ?_ | refine blockK_n ?_ | refine blockK_ret ?_ | refine blockK_same ?_ | refine blockK_other ?_ | refine loopK_n ?_ | refine loopK_ret ?_ | refine loopK_exit ?_)
    rename_i br
    -- the head
    refine OW.callX (ssmall br u xs N0 _ hu hlong) ?_ ?_
    · rintro _ _ ⟨h, rfl, rfl⟩
      repeat' (first | refine thenK_p ?_ | refine blockK_p ?_ | refine loopK_p ?_ | refine scopeK_p ?_)
      exact bodyM.pncDef L (caughtP w0 b3 0 380 _ _ _ _ (FnP.vp (first := #[]) (cap := #[.pointer (some ⟨b2, 0, none⟩)]) (dec1clr b2 _ _ (by rfl)))) (Res.of2 Tryz.results7) (zero 380 (decode_no1 hlong (hdr_no1 h)))
    rintro _ _ ⟨v1, n1, xs1, rfl, rfl, hv1, e1, le1, p1, q1⟩
    have s1 := hv1.sng
    repeat' (first | refine CW.seq ?_ | refine CW.block ?_ | refine CW.skip ?_ | refine CW.exit ?_ | refine CW.ret ?_ | refine CW.regionF (by kernel_rfl) ?_ | refine CW.condT ?_ | refine CW.condF ?_ | refine OW.skip (by rfl) (List.cons_ne_nil _ _) (fun _ => ?_) | refine OW.nil ?_ | refine OW.gT ?_ | refine OW.gF ?_ | refine OW.gF0 ?_ | refine OW.w (by constructor; omega; omega) ?_ | refine OW.decT (by omega) ?_ | refine OW.decF (by omega) ?_ | refine OW.dec (fun _ => ?_) (fun _ => ?_) | refine OW.p ?_ | refine OW.p0 ?_ | refine OW.ix (by constructor; omega; omega) ?_ | refine OW.ixA (by constructor; omega; omega) ?_ | refine OW.a (fun _ => ?_) | refine OW.u ?_ | refine thenK_n ?_ | refine thenK_ret ?_ | refine thenK_exit ?_ | refine blockK_n ?_ | refine blockK_ret ?_ | refine blockK_same ?_ | refine blockK_other ?_ | refine loopK_n ?_ | refine loopK_ret ?_ | refine loopK_exit ?_)
    refine OW.callX (sget br 8 (by decide) v1 xs1 N0 _ hv1 (by omega)) ?_ ?_
    · rintro _ _ ⟨h, rfl, rfl⟩
      repeat' (first | refine thenK_p ?_ | refine blockK_p ?_ | refine loopK_p ?_ | refine scopeK_p ?_)
      exact bodyM.pncDef L (caughtP w0 b3 0 380 _ _ _ _ (FnP.vp (first := #[]) (cap := #[.pointer (some ⟨b2, 0, none⟩)]) (dec1clr b2 _ _ (by rfl)))) (Res.of2 Tryz.results7) (zero 380 (decode_no1 hlong (hdr_no2 e1 h)))
    rintro _ _ ⟨v2, n2, xs2, rfl, rfl, hv2, e2, le2, p2, q2⟩
    rw [py8] at q2
    have s2 := hv2.sng
    repeat' (first | refine CW.seq ?_ | refine CW.block ?_ | refine CW.skip ?_ | refine CW.exit ?_ | refine CW.ret ?_ | refine CW.regionF (by kernel_rfl) ?_ | refine CW.condT ?_ | refine CW.condF ?_ | refine OW.skip (by rfl) (List.cons_ne_nil _ _) (fun _ => ?_) | refine OW.nil ?_ | refine OW.gT ?_ | refine OW.gF ?_ | refine OW.gF0 ?_ | refine OW.w (by constructor; omega; omega) ?_ | refine OW.decT (by omega) ?_ | refine OW.decF (by omega) ?_ | refine OW.dec (fun _ => ?_) (fun _ => ?_) | refine OW.p ?_ | refine OW.p0 ?_ | refine OW.ix (by constructor; omega; omega) ?_ | refine OW.ixA (by constructor; omega; omega) ?_ | refine OW.a (fun _ => ?_) | refine OW.u ?_ | refine thenK_n ?_ | refine thenK_ret ?_ | refine thenK_exit ?_ | refine blockK_n ?_ | refine blockK_ret ?_ | refine blockK_same ?_ | refine blockK_other ?_ | refine loopK_n ?_ | refine loopK_ret ?_ | refine loopK_exit ?_)
    refine CW.loopU 3 ?_
    repeat' (first | refine CW.seq ?_ | refine CW.block ?_ | refine CW.skip ?_ | refine CW.exit ?_ | refine CW.ret ?_ | refine CW.regionF (by kernel_rfl) ?_ | refine CW.condT ?_ | refine CW.condF ?_ | refine OW.skip (by rfl) (List.cons_ne_nil _ _) (fun _ => ?_) | refine OW.nil ?_ | refine OW.gT ?_ | refine OW.gF ?_ | refine OW.gF0 ?_ | refine OW.w (by constructor; omega; omega) ?_ | refine OW.decT (by omega) ?_ | refine OW.decF (by omega) ?_ | refine OW.dec (fun _ => ?_) (fun _ => ?_) | refine OW.p ?_ | refine OW.p0 ?_ | refine OW.ix (by constructor; omega; omega) ?_ | refine OW.ixA (by constructor; omega; omega) ?_ | refine OW.a (fun _ => ?_) | refine OW.u ?_ | refine thenK_n ?_ | refine thenK_ret ?_ | refine thenK_exit ?_ | refine blockK_n ?_ | refine blockK_ret ?_ | refine blockK_same ?_ | refine blockK_other ?_ | refine loopK_n ?_ | refine loopK_ret ?_ | refine loopK_exit ?_)
    refine OW.callX (ssmall br v2 xs2 N0 _ hv2 (by omega)) ?_ ?_
    · rintro _ _ ⟨h, rfl, rfl⟩
      repeat' (first | refine thenK_p ?_ | refine blockK_p ?_ | refine loopK_p ?_ | refine scopeK_p ?_)
      exact bodyM.pncDef L (caughtP w0 b3 0 380 _ _ _ _ (FnP.vp (first := #[]) (cap := #[.pointer (some ⟨b2, 0, none⟩)]) (dec1clr b2 _ _ (by rfl)))) (Res.of2 Tryz.results7) (zero 380 (decode_no1 hlong (hdr_no3 e1 e2 h)))
    rintro _ _ ⟨v3, n3, xs3, rfl, rfl, hv3, e3, le3, p3, q3⟩
    have s3 := hv3.sng
    repeat' (first | refine CW.seq ?_ | refine CW.block ?_ | refine CW.skip ?_ | refine CW.exit ?_ | refine CW.ret ?_ | refine CW.regionF (by kernel_rfl) ?_ | refine CW.condT ?_ | refine CW.condF ?_ | refine OW.skip (by rfl) (List.cons_ne_nil _ _) (fun _ => ?_) | refine OW.nil ?_ | refine OW.gT ?_ | refine OW.gF ?_ | refine OW.gF0 ?_ | refine OW.w (by constructor; omega; omega) ?_ | refine OW.decT (by omega) ?_ | refine OW.decF (by omega) ?_ | refine OW.dec (fun _ => ?_) (fun _ => ?_) | refine OW.p ?_ | refine OW.p0 ?_ | refine OW.ix (by constructor; omega; omega) ?_ | refine OW.ixA (by constructor; omega; omega) ?_ | refine OW.a (fun _ => ?_) | refine OW.u ?_ | refine thenK_n ?_ | refine thenK_ret ?_ | refine thenK_exit ?_ | refine blockK_n ?_ | refine blockK_ret ?_ | refine blockK_same ?_ | refine blockK_other ?_ | refine loopK_n ?_ | refine loopK_ret ?_ | refine loopK_exit ?_)
    refine OW.callX (ssmall br v3 xs3 N0 _ hv3 (by omega)) ?_ ?_
    · rintro _ _ ⟨h, rfl, rfl⟩
      repeat' (first | refine thenK_p ?_ | refine blockK_p ?_ | refine loopK_p ?_ | refine scopeK_p ?_)
      exact bodyM.pncDef L (caughtP w0 b3 0 380 _ _ _ _ (FnP.vp (first := #[]) (cap := #[.pointer (some ⟨b2, 0, none⟩)]) (dec1clr b2 _ _ (by rfl)))) (Res.of2 Tryz.results7) (zero 380 (decode_no1 hlong (hdr_no4 e1 e2 e3 h)))
    rintro _ _ ⟨v4, n4, xs4, rfl, rfl, hv4, e4, le4, p4, q4⟩
    have s4 := hv4.sng
    repeat' (first | refine CW.seq ?_ | refine CW.block ?_ | refine CW.skip ?_ | refine CW.exit ?_ | refine CW.ret ?_ | refine CW.regionF (by kernel_rfl) ?_ | refine CW.condT ?_ | refine CW.condF ?_ | refine OW.skip (by rfl) (List.cons_ne_nil _ _) (fun _ => ?_) | refine OW.nil ?_ | refine OW.gT ?_ | refine OW.gF ?_ | refine OW.gF0 ?_ | refine OW.w (by constructor; omega; omega) ?_ | refine OW.decT (by omega) ?_ | refine OW.decF (by omega) ?_ | refine OW.dec (fun _ => ?_) (fun _ => ?_) | refine OW.p ?_ | refine OW.p0 ?_ | refine OW.ix (by constructor; omega; omega) ?_ | refine OW.ixA (by constructor; omega; omega) ?_ | refine OW.a (fun _ => ?_) | refine OW.u ?_ | refine thenK_n ?_ | refine thenK_ret ?_ | refine thenK_exit ?_ | refine blockK_n ?_ | refine blockK_ret ?_ | refine blockK_same ?_ | refine blockK_other ?_ | refine loopK_n ?_ | refine loopK_ret ?_ | refine loopK_exit ?_)
    rw [show ((0 : Int) + 1).toNat = 1 from rfl]
    repeat' (first | refine CW.seq ?_ | refine CW.block ?_ | refine CW.skip ?_ | refine CW.exit ?_ | refine CW.ret ?_ | refine CW.regionF (by kernel_rfl) ?_ | refine CW.condT ?_ | refine CW.condF ?_ | refine OW.skip (by rfl) (List.cons_ne_nil _ _) (fun _ => ?_) | refine OW.nil ?_ | refine OW.gT ?_ | refine OW.gF ?_ | refine OW.gF0 ?_ | refine OW.w (by constructor; omega; omega) ?_ | refine OW.decT (by omega) ?_ | refine OW.decF (by omega) ?_ | refine OW.dec (fun _ => ?_) (fun _ => ?_) | refine OW.p ?_ | refine OW.p0 ?_ | refine OW.ix (by constructor; omega; omega) ?_ | refine OW.ixA (by constructor; omega; omega) ?_ | refine OW.a (fun _ => ?_) | refine OW.u ?_ | refine thenK_n ?_ | refine thenK_ret ?_ | refine thenK_exit ?_ | refine blockK_n ?_ | refine blockK_ret ?_ | refine blockK_same ?_ | refine blockK_other ?_ | refine loopK_n ?_ | refine loopK_ret ?_ | refine loopK_exit ?_)
    have hdr := hdr_some e1 e2 e3 e4
    -- the turns
    refine OW.call (sturns23 br _) ?_
    rintro _ _ ⟨bb, rfl, rfl⟩
    repeat' (first | refine CW.seq ?_ | refine CW.block ?_ | refine CW.skip ?_ | refine CW.exit ?_ | refine CW.ret ?_ | refine CW.regionF (by kernel_rfl) ?_ | refine CW.condT ?_ | refine CW.condF ?_ | refine OW.skip (by rfl) (List.cons_ne_nil _ _) (fun _ => ?_) | refine OW.nil ?_ | refine OW.gT ?_ | refine OW.gF ?_ | refine OW.gF0 ?_ | refine OW.w (by constructor; omega; omega) ?_ | refine OW.decT (by omega) ?_ | refine OW.decF (by omega) ?_ | refine OW.dec (fun _ => ?_) (fun _ => ?_) | refine OW.p ?_ | refine OW.p0 ?_ | refine OW.ix (by constructor; omega; omega) ?_ | refine OW.ixA (by constructor; omega; omega) ?_ | refine OW.a (fun _ => ?_) | refine OW.u ?_ | refine thenK_n ?_ | refine thenK_ret ?_ | refine thenK_exit ?_ | refine blockK_n ?_ | refine blockK_ret ?_ | refine blockK_same ?_ | refine blockK_other ?_ | refine loopK_n ?_ | refine loopK_ret ?_ | refine loopK_exit ?_)
    refine CW.rangeFunc (fun lp DD rec hrec => ?_)
    let J : Value → List Int → Chunk → Prop := fun v ys L' => ∃ E Nt vt cells ts, L' = E ++ ((lp, rec .ready none) :: (DD, .deferred (some [])) :: (Nt ++ ((bb, .cells #[.pointer (some ⟨br, 0, none⟩)] 57 (0, 0)) :: ([rds br v] ++ (N0 ++ ((b3, .cells #[.int .i64 0] 29 (0, 0)) :: (b2, .cells #[.int .i64 n1, .int .u64 n2, .int .i64 n3, .int .i64 n4, vt] 28 (0, 0)) :: L)))))) ∧
      Row 47 13 Nt vt ts.length cells ∧ TurnsAt E cells ts ∧ BS N0 v ys ∧ turnsQ xs4 = (turnsQ ys).map (ts ++ ·) ∧ ts.length + ys.length ≤ 65536
    let PN : Chunk → Prop := fun L' => turnsQ xs4 = none ∧ ∃ E Nt vt, Sng vt ∧ L' = E ++ ((lp, rec .ready none) :: (DD, .deferred (some [])) :: (Nt ++ ((bb, .cells #[.pointer (some ⟨br, 0, none⟩)] 57 (0, 0)) :: ([] ++ (N0 ++ ((b3, .cells #[.int .i64 0] 29 (0, 0)) :: (b2, .cells #[.int .i64 n1, .int .u64 n2, .int .i64 n3, .int .i64 n4, vt] 28 (0, 0)) :: L))))))
    refine (sturns45 (.func (.yield lp) #[] #[]) bb br J PN _ v4 xs4 ⟨[], [], .slice none 0 0, [], [], rfl, Row.nil _ 13, rfl, hv4, by simp, by simp; omega⟩ ?_ w0).mono ?_ ?_
    · rintro v ys _ ⟨E, Nt, vt, cells, ts, rfl, hrow, hta, hv, hQ, hsz⟩
      have svt := hrow.sng
      refine ⟨_, N0, inferInstance, inferInstance, hv, inferInstance, by omega, ?_, ?_⟩
      · intro N t vb1 vd1 v' ys' hvb hvd htr hv' htp
        have s5 := hvb.sng
        have s6 := hvd.sng
        refine VP.yield1 hrec (by decide) (fun w0 => ?_)
        repeat' (first | refine CW.seq ?_ | refine CW.block ?_ | refine CW.skip ?_ | refine CW.exit ?_ | refine CW.ret ?_ | refine CW.regionF (by kernel_rfl) ?_ | refine CW.condT ?_ | refine CW.condF ?_ | refine OW.skip (by rfl) (List.cons_ne_nil _ _) (fun _ => ?_) | refine OW.nil ?_ | refine OW.gT ?_ | refine OW.gF ?_ | refine OW.gF0 ?_ | refine OW.w (by constructor; omega; omega) ?_ | refine OW.decT (by omega) ?_ | refine OW.decF (by omega) ?_ | refine OW.dec (fun _ => ?_) (fun _ => ?_) | refine OW.p ?_ | refine OW.p0 ?_ | refine OW.ix (by constructor; omega; omega) ?_ | refine OW.ixA (by constructor; omega; omega) ?_ | refine OW.a (fun _ => ?_) | refine OW.u ?_ | refine thenK_n ?_ | refine thenK_ret ?_ | refine thenK_exit ?_ | refine blockK_n ?_ | refine blockK_ret ?_ | refine blockK_same ?_ | refine blockK_other ?_ | refine loopK_n ?_ | refine loopK_ret ?_ | refine loopK_exit ?_)
        rename_i b6
        refine beginR ?_
        repeat' (first | refine CW.seq ?_ | refine CW.block ?_ | refine CW.skip ?_ | refine CW.exit ?_ | refine CW.ret ?_ | refine CW.regionF (by kernel_rfl) ?_ | refine CW.condT ?_ | refine CW.condF ?_ | refine OW.skip (by rfl) (List.cons_ne_nil _ _) (fun _ => ?_) | refine OW.nil ?_ | refine OW.gT ?_ | refine OW.gF ?_ | refine OW.gF0 ?_ | refine OW.w (by constructor; omega; omega) ?_ | refine OW.decT (by omega) ?_ | refine OW.decF (by omega) ?_ | refine OW.dec (fun _ => ?_) (fun _ => ?_) | refine OW.p ?_ | refine OW.p0 ?_ | refine OW.ix (by constructor; omega; omega) ?_ | refine OW.ixA (by constructor; omega; omega) ?_ | refine OW.a (fun _ => ?_) | refine OW.u ?_ | refine thenK_n ?_ | refine thenK_ret ?_ | refine thenK_exit ?_ | refine blockK_n ?_ | refine blockK_ret ?_ | refine blockK_same ?_ | refine blockK_other ?_ | refine loopK_n ?_ | refine loopK_ret ?_ | refine loopK_exit ?_)
        rename_i bs
        refine OW.append hrow inferInstance (Rd.blk (by rfl) (by decide)) SngL.out (by omega) (fun vt' Nt' hrow' => ?_)
        have s7 := hrow'.sng
        repeat' (first | refine CW.seq ?_ | refine CW.block ?_ | refine CW.skip ?_ | refine CW.exit ?_ | refine CW.ret ?_ | refine CW.regionF (by kernel_rfl) ?_ | refine CW.condT ?_ | refine CW.condF ?_ | refine OW.skip (by rfl) (List.cons_ne_nil _ _) (fun _ => ?_) | refine OW.nil ?_ | refine OW.gT ?_ | refine OW.gF ?_ | refine OW.gF0 ?_ | refine OW.w (by constructor; omega; omega) ?_ | refine OW.decT (by omega) ?_ | refine OW.decF (by omega) ?_ | refine OW.dec (fun _ => ?_) (fun _ => ?_) | refine OW.p ?_ | refine OW.p0 ?_ | refine OW.ix (by constructor; omega; omega) ?_ | refine OW.ixA (by constructor; omega; omega) ?_ | refine OW.a (fun _ => ?_) | refine OW.u ?_ | refine thenK_n ?_ | refine thenK_ret ?_ | refine thenK_exit ?_ | refine blockK_n ?_ | refine blockK_ret ?_ | refine blockK_same ?_ | refine blockK_other ?_ | refine loopK_n ?_ | refine loopK_ret ?_ | refine loopK_exit ?_)
        refine roundK.nrm ?_
        have hta' : TurnsAt ((bs, .cells (tcells t vb1 vd1).toArray 47 (0, 0)) :: (b6, .cells (tcells t vb1 vd1).toArray 47 (0, 0)) :: (N ++ E)) (cells ++ tcells t vb1 vd1) (ts ++ [t]) := TurnsAt.snoc hta.to ⟨vb1, vd1, rfl, hvb.to, hvd.to, htr⟩
        have hlt := turnP_lt htp
        refine ⟨rfl, (bs, .cells (tcells t vb1 vd1).toArray 47 (0, 0)) :: (b6, .cells (tcells t vb1 vd1).toArray 47 (0, 0)) :: (N ++ E), Nt', vt', cells ++ tcells t vb1 vd1, ts ++ [t], by simp, by rw [List.length_append]; exact hrow', hta', hv', ?_, by simp; omega⟩
        rw [hQ, turnsQ_some htp]; simp [Function.comp_def]
      · intro hno hne
        exact ⟨by rw [hQ, turnsQ_none hne hno]; rfl, E, Nt, vt, svt, rfl⟩
    · rintro u L' ⟨v, E, Nt, vt, cells, ts, rfl, hrow, hta, hv, hQ, hsz⟩
      have svt := hrow.sng
      refine rangeK.nrm ?_
      repeat' (first | refine CW.seq ?_ | refine CW.block ?_ | refine CW.skip ?_ | refine CW.exit ?_ | refine CW.ret ?_ | refine CW.regionF (by kernel_rfl) ?_ | refine CW.condT ?_ | refine CW.condF ?_ | refine OW.skip (by rfl) (List.cons_ne_nil _ _) (fun _ => ?_) | refine OW.nil ?_ | refine OW.gT ?_ | refine OW.gF ?_ | refine OW.gF0 ?_ | refine OW.w (by constructor; omega; omega) ?_ | refine OW.decT (by omega) ?_ | refine OW.decF (by omega) ?_ | refine OW.dec (fun _ => ?_) (fun _ => ?_) | refine OW.p ?_ | refine OW.p0 ?_ | refine OW.ix (by constructor; omega; omega) ?_ | refine OW.ixA (by constructor; omega; omega) ?_ | refine OW.a (fun _ => ?_) | refine OW.u ?_ | refine thenK_n ?_ | refine thenK_ret ?_ | refine thenK_exit ?_ | refine blockK_n ?_ | refine blockK_ret ?_ | refine blockK_same ?_ | refine blockK_other ?_ | refine loopK_n ?_ | refine loopK_ret ?_ | refine loopK_exit ?_)
      have hgood := decode_some (ts := ts) hlong hdr (by rw [hQ, turnsQ_nil]; simp)
      refine bodyM.ret_lv (lv_mark (by simp) (lv_one (E ++ (Nt ++ L)) (by simp) (caughtR w0 b3 _ _) (Res.of2 Tryz.results7) ?_))
      exact ⟨E ++ Nt, vt, ⟨n1, n2, n3, n4, ts⟩, 0, rfl, (List.append_assoc ..).symm, hgood, ⟨⟨cells, hrow.to, hta.to⟩, by show (ts.length : Int) ≤ _; omega⟩, LR.lit ⟨by omega, by omega⟩ ⟨by omega, by omega⟩ ⟨by omega, by omega⟩ ⟨by omega, by omega⟩⟩
    · rintro ch L' ⟨rfl, hno, E, Nt, vt, svt, rfl⟩
      repeat' (first | refine thenK_p ?_ | refine blockK_p ?_ | refine loopK_p ?_ | refine scopeK_p ?_)
      exact bodyM.pnc_lv (lv_mark (by simp) (lv_one L (by simp [pnc]) (caughtP w0 b3 0 380 _ _ _ _ (FnP.vp (first := #[]) (cap := #[.pointer (some ⟨b2, 0, none⟩)]) (dec1clr b2 _ _ (by rfl)))) (Res.of2 Tryz.results7) (zero 380 (decode_no2 hlong hdr hno))))
  · repeat' (first | refine CW.seq ?_ | refine CW.block ?_ | refine CW.skip ?_ | refine CW.exit ?_ | refine CW.ret ?_ | refine CW.regionF (by kernel_rfl) ?_ | refine CW.condT ?_ | refine CW.condF ?_ | refine OW.skip (by rfl) (List.cons_ne_nil _ _) (fun _ => ?_) | refine OW.nil ?_ | refine OW.gT ?_ | refine OW.gF ?_ | refine OW.gF0 ?_ | refine OW.w (by constructor; omega; omega) ?_ | refine OW.decT (by omega) ?_ | refine OW.decF (by omega) ?_ | refine OW.dec (fun _ => ?_) (fun _ => ?_) | refine OW.p ?_ | refine OW.p0 ?_ | refine OW.ix (by constructor; omega; omega) ?_ | refine OW.ixA (by constructor; omega; omega) ?_ | refine OW.a (fun _ => ?_) | refine OW.u ?_ | refine thenK_n ?_ | refine thenK_ret ?_ | refine thenK_exit ?_ | refine blockK_n ?_ | refine blockK_ret ?_ | refine blockK_same ?_ | refine blockK_other ?_ | refine loopK_n ?_ | refine loopK_ret ?_ | refine loopK_exit ?_)
    refine OW.callX (must false 3 _) ?_ (fun _ _ h => (by cases h.1))
    rintro _ _ ⟨_, rfl, rfl⟩
    repeat' (first | refine thenK_p ?_ | refine blockK_p ?_ | refine loopK_p ?_ | refine scopeK_p ?_)
    exact bodyM.pncDef L (caughtP w0 b3 0 3 _ _ _ _ (FnP.vp (first := #[]) (cap := #[.pointer (some ⟨b2, 0, none⟩)]) (dec1clr b2 _ _ (by rfl)))) (Res.of2 Tryz.results7) (zero 3 (decode_long (by omega)))
end Go.Proofs.YtlfdaepkoagnbaaGreat

namespace Go.Proofs.YtlfdaepkoagnbaaGreat
open Go Go.Pw Go.Pw.Sc
set_option maxRecDepth 100000
set_option maxHeartbeats 4000000
set_option synthInstance.maxHeartbeats 400000
set_option synthInstance.maxSize 2000
attribute [local irreducible] CW OW RW thenK blockK
attribute [local irreducible] scopeK loopK


instance eqHold' {a b c d : Int} : EqA Tryz.prog 25 [.int .i64 a, .int .i64 b] [.int .i64 c, .int .i64 d] (decide (a = c ∧ b = d)) :=
  ⟨by kernel_rfl, fun w => eq_arr2 Tryz.underlying25 (i := _) rfl (by kernel_rfl) w a b c d⟩

theorem same1 (t u : Turn) (vb vd vb' vd' : Value) (L : Chunk) (hb : BS L vb t.obytes) (hd : BS L vd t.draws) (hb' : BS L vb' u.obytes) (hd' : BS L vd' u.draws) :
    Fn1 Tryz.prog 37 [.agg (tcells t vb vd).toArray, .agg (tcells u vb' vd').toArray] L (fun v L' => v = .bool (decide (bare t = bare u)) ∧ L = L') := by
  intro w0; refine Spec.enter2 Tryz.func37 rfl Tryz.ntmps37 (by decide) ?_
  have sb := hb.sng
  have sd := hd.sng
  have sb' := hb'.sng
  have sd' := hd'.sng
  repeat' (first | refine CW.seq ?_ | refine CW.block ?_ | refine CW.skip ?_ | refine CW.exit ?_ | refine CW.ret ?_ | refine CW.regionF (by kernel_rfl) ?_ | refine CW.condT ?_ | refine CW.condF ?_ | refine OW.skip (by rfl) (List.cons_ne_nil _ _) (fun _ => ?_) | refine OW.nil ?_ | refine OW.gT ?_ | refine OW.gF ?_ | refine OW.gF0 ?_ | refine OW.w (by constructor; omega; omega) ?_ | refine OW.decT (by omega) ?_ | refine OW.decF (by omega) ?_ | refine OW.dec (fun _ => ?_) (fun _ => ?_) | refine OW.p ?_ | refine OW.p0 ?_ | refine OW.ix (by constructor; omega; omega) ?_ | refine OW.ixA (by constructor; omega; omega) ?_ | refine OW.a (fun _ => ?_) | refine OW.u ?_ | refine RW.skip (by rfl) (List.cons_ne_nil _ _) (fun _ => ?_) | refine RW.nil ?_ | refine RW.gF ?_ | refine RW.gF0 ?_ | refine RW.w (by constructor; omega; omega) rfl ?_ | refine RW.decT (by omega) rfl ?_ | refine RW.decF (by omega) rfl ?_ | refine RW.dec rfl (fun _ => ?_) (fun _ => ?_) | refine RW.p rfl ?_ | refine RW.p0 rfl ?_ | refine RW.ix (by constructor; omega; omega) ?_ | refine RW.ixA (by constructor; omega; omega) ?_ | refine RW.a rfl (fun _ => ?_) | refine RW.u rfl ?_ | refine thenK_n ?_ | refine thenK_ret ?_ | refine thenK_exit ?_ | refine blockK_n ?_ | refine blockK_ret ?_ | refine blockK_same ?_ | refine blockK_other ?_)
  refine CW.drawsP [0, 2, 1, 3, 4, 5] mixed (by kernel_rfl) ?_
  repeat' (first | refine CW.seq ?_ | refine CW.block ?_ | refine CW.skip ?_ | refine CW.exit ?_ | refine CW.ret ?_ | refine CW.regionF (by kernel_rfl) ?_ | refine CW.drawsT mixed (by kernel_rfl) ?_ | refine CW.condT ?_ | refine CW.condF ?_ | refine OW.skip (by rfl) (List.cons_ne_nil _ _) (fun _ => ?_) | refine OW.nil ?_ | refine OW.gT ?_ | refine OW.gF ?_ | refine OW.gF0 ?_ | refine OW.w (by constructor; omega; omega) ?_ | refine OW.decT (by omega) ?_ | refine OW.decF (by omega) ?_ | refine OW.dec (fun _ => ?_) (fun _ => ?_) | refine OW.p ?_ | refine OW.p0 ?_ | refine OW.ix (by constructor; omega; omega) ?_ | refine OW.ixA (by constructor; omega; omega) ?_ | refine OW.a (fun _ => ?_) | refine OW.u ?_ | refine RW.skip (by rfl) (List.cons_ne_nil _ _) (fun _ => ?_) | refine RW.nil ?_ | refine RW.gF ?_ | refine RW.gF0 ?_ | refine RW.w (by constructor; omega; omega) rfl ?_ | refine RW.decT (by omega) rfl ?_ | refine RW.decF (by omega) rfl ?_ | refine RW.dec rfl (fun _ => ?_) (fun _ => ?_) | refine RW.p rfl ?_ | refine RW.p0 rfl ?_ | refine RW.ix (by constructor; omega; omega) ?_ | refine RW.ixA (by constructor; omega; omega) ?_ | refine RW.a rfl (fun _ => ?_) | refine RW.u rfl ?_ | refine thenK_n ?_ | refine thenK_ret ?_ | refine thenK_exit ?_ | refine blockK_n ?_ | refine blockK_ret ?_ | refine blockK_same ?_ | refine blockK_other ?_)
  refine RW.call (bare39 t vb vd _ hb.to hd.to) ?_
  rintro _ _ ⟨⟨wb, wd, rfl, h1, h2⟩, rfl⟩
  refine pinAll ?_
  repeat' (first | refine CW.seq ?_ | refine CW.block ?_ | refine CW.skip ?_ | refine CW.exit ?_ | refine CW.ret ?_ | refine CW.regionF (by kernel_rfl) ?_ | refine CW.drawsT mixed (by kernel_rfl) ?_ | refine CW.condT ?_ | refine CW.condF ?_ | refine OW.skip (by rfl) (List.cons_ne_nil _ _) (fun _ => ?_) | refine OW.nil ?_ | refine OW.gT ?_ | refine OW.gF ?_ | refine OW.gF0 ?_ | refine OW.w (by constructor; omega; omega) ?_ | refine OW.decT (by omega) ?_ | refine OW.decF (by omega) ?_ | refine OW.dec (fun _ => ?_) (fun _ => ?_) | refine OW.p ?_ | refine OW.p0 ?_ | refine OW.ix (by constructor; omega; omega) ?_ | refine OW.ixA (by constructor; omega; omega) ?_ | refine OW.a (fun _ => ?_) | refine OW.u ?_ | refine RW.skip (by rfl) (List.cons_ne_nil _ _) (fun _ => ?_) | refine RW.nil ?_ | refine RW.gF ?_ | refine RW.gF0 ?_ | refine RW.w (by constructor; omega; omega) rfl ?_ | refine RW.decT (by omega) rfl ?_ | refine RW.decF (by omega) rfl ?_ | refine RW.dec rfl (fun _ => ?_) (fun _ => ?_) | refine RW.p rfl ?_ | refine RW.p0 rfl ?_ | refine RW.ix (by constructor; omega; omega) ?_ | refine RW.ixA (by constructor; omega; omega) ?_ | refine RW.a rfl (fun _ => ?_) | refine RW.u rfl ?_ | refine thenK_n ?_ | refine thenK_ret ?_ | refine thenK_exit ?_ | refine blockK_n ?_ | refine blockK_ret ?_ | refine blockK_same ?_ | refine blockK_other ?_)
  refine RW.call (bare39 u vb' vd' _ hb'.to hd'.to) ?_
  rintro _ _ ⟨⟨wb', wd', rfl, h1', h2'⟩, rfl⟩
  refine pinAll ?_
  repeat' (first | refine CW.seq ?_ | refine CW.block ?_ | refine CW.skip ?_ | refine CW.exit ?_ | refine CW.ret ?_ | refine CW.regionF (by kernel_rfl) ?_ | refine CW.drawsT mixed (by kernel_rfl) ?_ | refine CW.condT ?_ | refine CW.condF ?_ | refine OW.skip (by rfl) (List.cons_ne_nil _ _) (fun _ => ?_) | refine OW.nil ?_ | refine OW.gT ?_ | refine OW.gF ?_ | refine OW.gF0 ?_ | refine OW.w (by constructor; omega; omega) ?_ | refine OW.decT (by omega) ?_ | refine OW.decF (by omega) ?_ | refine OW.dec (fun _ => ?_) (fun _ => ?_) | refine OW.p ?_ | refine OW.p0 ?_ | refine OW.ix (by constructor; omega; omega) ?_ | refine OW.ixA (by constructor; omega; omega) ?_ | refine OW.a (fun _ => ?_) | refine OW.u ?_ | refine RW.skip (by rfl) (List.cons_ne_nil _ _) (fun _ => ?_) | refine RW.nil ?_ | refine RW.gF ?_ | refine RW.gF0 ?_ | refine RW.w (by constructor; omega; omega) rfl ?_ | refine RW.decT (by omega) rfl ?_ | refine RW.decF (by omega) rfl ?_ | refine RW.dec rfl (fun _ => ?_) (fun _ => ?_) | refine RW.p rfl ?_ | refine RW.p0 rfl ?_ | refine RW.ix (by constructor; omega; omega) ?_ | refine RW.ixA (by constructor; omega; omega) ?_ | refine RW.a rfl (fun _ => ?_) | refine RW.u rfl ?_ | refine thenK_n ?_ | refine thenK_ret ?_ | refine thenK_exit ?_ | refine blockK_n ?_ | refine blockK_ret ?_ | refine blockK_same ?_ | refine blockK_other ?_)
  refine RW.call (same38 (bare t) (bare u) wb wd wb' wd' _ h1 h2 h1' h2') ?_
  rintro _ _ ⟨rfl, rfl⟩
  refine pinAll ?_
  repeat' (first | refine CW.seq ?_ | refine CW.block ?_ | refine CW.skip ?_ | refine CW.exit ?_ | refine CW.ret ?_ | refine CW.regionF (by kernel_rfl) ?_ | refine CW.drawsT mixed (by kernel_rfl) ?_ | refine CW.condT ?_ | refine CW.condF ?_ | refine OW.skip (by rfl) (List.cons_ne_nil _ _) (fun _ => ?_) | refine OW.nil ?_ | refine OW.gT ?_ | refine OW.gF ?_ | refine OW.gF0 ?_ | refine OW.w (by constructor; omega; omega) ?_ | refine OW.decT (by omega) ?_ | refine OW.decF (by omega) ?_ | refine OW.dec (fun _ => ?_) (fun _ => ?_) | refine OW.p ?_ | refine OW.p0 ?_ | refine OW.ix (by constructor; omega; omega) ?_ | refine OW.ixA (by constructor; omega; omega) ?_ | refine OW.a (fun _ => ?_) | refine OW.u ?_ | refine RW.skip (by rfl) (List.cons_ne_nil _ _) (fun _ => ?_) | refine RW.nil ?_ | refine RW.gF ?_ | refine RW.gF0 ?_ | refine RW.w (by constructor; omega; omega) rfl ?_ | refine RW.decT (by omega) rfl ?_ | refine RW.decF (by omega) rfl ?_ | refine RW.dec rfl (fun _ => ?_) (fun _ => ?_) | refine RW.p rfl ?_ | refine RW.p0 rfl ?_ | refine RW.ix (by constructor; omega; omega) ?_ | refine RW.ixA (by constructor; omega; omega) ?_ | refine RW.a rfl (fun _ => ?_) | refine RW.u rfl ?_ | refine thenK_n ?_ | refine thenK_ret ?_ | refine thenK_exit ?_ | refine blockK_n ?_ | refine blockK_ret ?_ | refine blockK_same ?_ | refine blockK_other ?_)
  all_goals refine bodyK.retD L (Res.one Tryz.results37) ⟨?_, rfl⟩
  all_goals simp [*]

theorem equalFunc36 (us bs : List Turn) (va vb fv : Value) (L : Chunk) (ha : TS L va us) (hb : TS L vb bs)
    (hf : ∀ t u vb vd vb' vd', BS L vb t.obytes → BS L vd t.draws → BS L vb' u.obytes → BS L vd' u.draws → VP Tryz.prog fv [.agg (tcells t vb vd).toArray, .agg (tcells u vb' vd').toArray] L (fun v L' => v = .bool (decide (bare t = bare u)) ∧ L = L') noPanic) :
    Fn1 Tryz.prog 36 [va, vb, fv] L (fun v L' => v = .bool (decide (us.map bare = bs.map bare)) ∧ L = L') := by
  intro w0; refine Spec.enter3 Tryz.func36 rfl Tryz.ntmps36 (by decide) ?_
  have hla := ha.len
  have hlb := hb.len
  obtain ⟨aa, ac, rfl⟩ := ha.slice
  obtain ⟨ba, bc, rfl⟩ := hb.slice
  by_cases hlen : us.length = bs.length
  · repeat' (first | refine CW.seq ?_ | refine CW.block ?_ | refine CW.skip ?_ | refine CW.exit ?_ | refine CW.ret ?_ | refine CW.regionF (by kernel_rfl) ?_ | refine CW.condT ?_ | refine CW.condF ?_ | refine OW.skip (by rfl) (List.cons_ne_nil _ _) (fun _ => ?_) | refine OW.nil ?_ | refine OW.gT ?_ | refine OW.gF ?_ | refine OW.gF0 ?_ | refine OW.w (by constructor; omega; omega) ?_ | refine OW.decT (by omega) ?_ | refine OW.decF (by omega) ?_ | refine OW.dec (fun _ => ?_) (fun _ => ?_) | refine OW.p ?_ | refine OW.p0 ?_ | refine OW.ix (by constructor; omega; omega) ?_ | refine OW.ixA (by constructor; omega; omega) ?_ | refine OW.a (fun _ => ?_) | refine OW.u ?_ | refine thenK_n ?_ | refine thenK_ret ?_ | refine thenK_exit ?_ | refine blockK_n ?_ | refine blockK_ret ?_ | refine blockK_same ?_ | refine blockK_other ?_)
    refine CW.count us.length (fun i ρ ds L' => ds = [] ∧ L' = L ∧ (us.take i).map bare = (bs.take i).map bare ∧ Ev ρ 0 (.slice aa us.length ac) ∧ Ev ρ 1 (.slice ba bs.length bc) ∧ Ev ρ 2 fv ∧ Ev ρ 15 (.slice aa us.length ac) ∧ Ev ρ 16 (.int .i64 us.length) ∧ Ev ρ 17 (.int .i64 i)) ⟨rfl, rfl, rfl, inferInstance, inferInstance, inferInstance, inferInstance, inferInstance, inferInstance⟩ ?_
    rintro i ρ ds L' hi ⟨rfl, rfl, hall, e0, e1, e2, e15, e16, e17⟩
    by_cases hlt : i < us.length
    · have hlt' : i < bs.length := by omega
      obtain ⟨b1, k1, cap1, cl1, ee1, fr1, hv1, hin1, hcap1, hcut1⟩ := ha.open (by omega)
      cases hv1
      obtain ⟨vb1, vd1, hc1, hb1, hd1, htr1⟩ := hcut1 i hlt
      obtain ⟨b2, k2, cap2, cl2, ee2, fr2, hv2, hin2, hcap2, hcut2⟩ := hb.open (by omega)
      cases hv2
      obtain ⟨vb2, vd2, hc2, hb2, hd2, htr2⟩ := hcut2 i hlt'
      have s1 := hb1.sng
      have s2 := hd1.sng
      have s3 := hb2.sng
      have s4 := hd2.sng
      repeat' (first | refine CW.seq ?_ | refine CW.block ?_ | refine CW.skip ?_ | refine CW.exit ?_ | refine CW.ret ?_ | refine CW.regionF (by kernel_rfl) ?_ | refine CW.condT ?_ | refine CW.condF ?_ | refine OW.skip (by rfl) (List.cons_ne_nil _ _) (fun _ => ?_) | refine OW.nil ?_ | refine OW.gT ?_ | refine OW.gF ?_ | refine OW.gF0 ?_ | refine OW.w (by constructor; omega; omega) ?_ | refine OW.decT (by omega) ?_ | refine OW.decF (by omega) ?_ | refine OW.dec (fun _ => ?_) (fun _ => ?_) | refine OW.p ?_ | refine OW.p0 ?_ | refine OW.ix (by constructor; omega; omega) ?_ | refine OW.ixA (by constructor; omega; omega) ?_ | refine OW.a (fun _ => ?_) | refine OW.u ?_ | refine thenK_n ?_ | refine thenK_ret ?_ | refine thenK_exit ?_ | refine blockK_n ?_ | refine blockK_ret ?_ | refine blockK_same ?_ | refine blockK_other ?_)
      refine OW.drop (L' := L') SubC.out ?_
      refine OW.callV1 (hf us[i] bs[i] vb1 vd1 vb2 vd2 hb1 hd1 hb2 hd2) ?_
      rintro _ _ ⟨rfl, rfl⟩
      by_cases hs : bare us[i] = bare bs[i]
      · rw [decide_eq_true hs]
        repeat' (first | refine CW.seq ?_ | refine CW.block ?_ | refine CW.skip ?_ | refine CW.exit ?_ | refine CW.ret ?_ | refine CW.regionF (by kernel_rfl) ?_ | refine CW.condT ?_ | refine CW.condF ?_ | refine OW.skip (by rfl) (List.cons_ne_nil _ _) (fun _ => ?_) | refine OW.nil ?_ | refine OW.gT ?_ | refine OW.gF ?_ | refine OW.gF0 ?_ | refine OW.w (by constructor; omega; omega) ?_ | refine OW.decT (by omega) ?_ | refine OW.decF (by omega) ?_ | refine OW.dec (fun _ => ?_) (fun _ => ?_) | refine OW.p ?_ | refine OW.p0 ?_ | refine OW.ix (by constructor; omega; omega) ?_ | refine OW.ixA (by constructor; omega; omega) ?_ | refine OW.a (fun _ => ?_) | refine OW.u ?_ | refine thenK_n ?_ | refine thenK_ret ?_ | refine thenK_exit ?_ | refine blockK_n ?_ | refine blockK_ret ?_ | refine blockK_same ?_ | refine blockK_other ?_)
        refine ⟨hlt, rfl, rfl, ?_, inferInstance, inferInstance, inferInstance, inferInstance, inferInstance, inferInstance⟩
        rw [List.take_succ_eq_append_getElem hlt, List.take_succ_eq_append_getElem hlt', List.map_append, List.map_append, hall, List.map_singleton, List.map_singleton, hs]
      · rw [decide_eq_false hs]
        repeat' (first | refine CW.seq ?_ | refine CW.block ?_ | refine CW.skip ?_ | refine CW.exit ?_ | refine CW.ret ?_ | refine CW.regionF (by kernel_rfl) ?_ | refine CW.condT ?_ | refine CW.condF ?_ | refine OW.skip (by rfl) (List.cons_ne_nil _ _) (fun _ => ?_) | refine OW.nil ?_ | refine OW.gT ?_ | refine OW.gF ?_ | refine OW.gF0 ?_ | refine OW.w (by constructor; omega; omega) ?_ | refine OW.decT (by omega) ?_ | refine OW.decF (by omega) ?_ | refine OW.dec (fun _ => ?_) (fun _ => ?_) | refine OW.p ?_ | refine OW.p0 ?_ | refine OW.ix (by constructor; omega; omega) ?_ | refine OW.ixA (by constructor; omega; omega) ?_ | refine OW.a (fun _ => ?_) | refine OW.u ?_ | refine thenK_n ?_ | refine thenK_ret ?_ | refine thenK_exit ?_ | refine blockK_n ?_ | refine blockK_ret ?_ | refine blockK_same ?_ | refine blockK_other ?_)
        exact bodyK.ret (Res.one Tryz.results36) ⟨by rw [decide_eq_false (fun h => hs (by
          have := congrArg (fun l => l[i]?) h
          simpa [hlt, hlt'] using this))], rfl⟩
    · obtain rfl : i = us.length := by omega
      rw [List.take_length, hlen, List.take_length] at hall
      repeat' (first | refine CW.seq ?_ | refine CW.block ?_ | refine CW.skip ?_ | refine CW.exit ?_ | refine CW.ret ?_ | refine CW.regionF (by kernel_rfl) ?_ | refine CW.condT ?_ | refine CW.condF ?_ | refine OW.skip (by rfl) (List.cons_ne_nil _ _) (fun _ => ?_) | refine OW.nil ?_ | refine OW.gT ?_ | refine OW.gF ?_ | refine OW.gF0 ?_ | refine OW.w (by constructor; omega; omega) ?_ | refine OW.decT (by omega) ?_ | refine OW.decF (by omega) ?_ | refine OW.dec (fun _ => ?_) (fun _ => ?_) | refine OW.p ?_ | refine OW.p0 ?_ | refine OW.ix (by constructor; omega; omega) ?_ | refine OW.ixA (by constructor; omega; omega) ?_ | refine OW.a (fun _ => ?_) | refine OW.u ?_ | refine thenK_n ?_ | refine thenK_ret ?_ | refine thenK_exit ?_ | refine blockK_n ?_ | refine blockK_ret ?_ | refine blockK_same ?_ | refine blockK_other ?_)
      exact bodyK.ret (Res.one Tryz.results36) ⟨by rw [decide_eq_true hall], rfl⟩
  · repeat' (first | refine CW.seq ?_ | refine CW.block ?_ | refine CW.skip ?_ | refine CW.exit ?_ | refine CW.ret ?_ | refine CW.regionF (by kernel_rfl) ?_ | refine CW.condT ?_ | refine CW.condF ?_ | refine OW.skip (by rfl) (List.cons_ne_nil _ _) (fun _ => ?_) | refine OW.nil ?_ | refine OW.gT ?_ | refine OW.gF ?_ | refine OW.gF0 ?_ | refine OW.w (by constructor; omega; omega) ?_ | refine OW.decT (by omega) ?_ | refine OW.decF (by omega) ?_ | refine OW.dec (fun _ => ?_) (fun _ => ?_) | refine OW.p ?_ | refine OW.p0 ?_ | refine OW.ix (by constructor; omega; omega) ?_ | refine OW.ixA (by constructor; omega; omega) ?_ | refine OW.a (fun _ => ?_) | refine OW.u ?_ | refine thenK_n ?_ | refine thenK_ret ?_ | refine thenK_exit ?_ | refine blockK_n ?_ | refine blockK_ret ?_ | refine blockK_same ?_ | refine blockK_other ?_)
    exact bodyK.ret (Res.one Tryz.results36) ⟨by rw [decide_eq_false (fun h => hlen (by simpa using congrArg List.length h))], rfl⟩

theorem ssame15 (a b : Life) (va vb : Value) (L : Chunk) (ha : TS L va a.turns) (hb : TS L vb b.turns) :
    Fn1 Tryz.prog 15 [.agg (lcells a va).toArray, .agg (lcells b vb).toArray] L (fun v L' => v = .bool (decide (same a b)) ∧ L = L') := by
  intro w0; refine Spec.enter2 Tryz.func15 rfl Tryz.ntmps15 (by decide) ?_
  have sa := ha.sng
  have sb := hb.sng
  have bad : ¬ same a b → Value.bool false = .bool (decide (same a b)) := fun h => by rw [decide_eq_false h]
  by_cases h1 : a.frames = b.frames
  · by_cases h2 : a.key = b.key
    · by_cases h3 : a.h0 = b.h0 ∧ a.h1 = b.h1
      · have eA : EqA Tryz.prog 25 [.int .i64 a.h0, .int .i64 a.h1] [.int .i64 b.h0, .int .i64 b.h1] true := decide_eq_true h3 ▸ eqHold'
        repeat' (first | refine CW.seq ?_ | refine CW.block ?_ | refine CW.skip ?_ | refine CW.exit ?_ | refine CW.ret ?_ | refine CW.regionF (by kernel_rfl) ?_ | refine CW.condT ?_ | refine CW.condF ?_ | refine OW.skip (by rfl) (List.cons_ne_nil _ _) (fun _ => ?_) | refine OW.nil ?_ | refine OW.gT ?_ | refine OW.gF ?_ | refine OW.gF0 ?_ | refine OW.w (by constructor; omega; omega) ?_ | refine OW.decT (by omega) ?_ | refine OW.decF (by omega) ?_ | refine OW.dec (fun _ => ?_) (fun _ => ?_) | refine OW.p ?_ | refine OW.p0 ?_ | refine OW.ix (by constructor; omega; omega) ?_ | refine OW.ixA (by constructor; omega; omega) ?_ | refine OW.a (fun _ => ?_) | refine OW.u ?_ | refine thenK_n ?_ | refine thenK_ret ?_ | refine thenK_exit ?_ | refine blockK_n ?_ | refine blockK_ret ?_ | refine blockK_same ?_ | refine blockK_other ?_)
        refine OW.call (equalFunc36 a.turns b.turns va vb _ _ ha.to hb.to (fun t u vb vd vb' vd' q1 q2 q3 q4 => FnP.vp (first := #[]) (cap := #[]) (same1 t u vb vd vb' vd' _ q1 q2 q3 q4))) ?_
        rintro _ _ ⟨rfl, rfl⟩
        by_cases h4 : a.turns.map bare = b.turns.map bare
        · rw [decide_eq_true h4]
          repeat' (first | refine CW.seq ?_ | refine CW.block ?_ | refine CW.skip ?_ | refine CW.exit ?_ | refine CW.ret ?_ | refine CW.regionF (by kernel_rfl) ?_ | refine CW.condT ?_ | refine CW.condF ?_ | refine OW.skip (by rfl) (List.cons_ne_nil _ _) (fun _ => ?_) | refine OW.nil ?_ | refine OW.gT ?_ | refine OW.gF ?_ | refine OW.gF0 ?_ | refine OW.w (by constructor; omega; omega) ?_ | refine OW.decT (by omega) ?_ | refine OW.decF (by omega) ?_ | refine OW.dec (fun _ => ?_) (fun _ => ?_) | refine OW.p ?_ | refine OW.p0 ?_ | refine OW.ix (by constructor; omega; omega) ?_ | refine OW.ixA (by constructor; omega; omega) ?_ | refine OW.a (fun _ => ?_) | refine OW.u ?_ | refine thenK_n ?_ | refine thenK_ret ?_ | refine thenK_exit ?_ | refine blockK_n ?_ | refine blockK_ret ?_ | refine blockK_same ?_ | refine blockK_other ?_)
          exact bodyK.retD L (Res.one Tryz.results15) ⟨by rw [decide_eq_true (show same a b from ⟨h1, h2, h3, h4⟩)], rfl⟩
        · rw [decide_eq_false h4]
          repeat' (first | refine CW.seq ?_ | refine CW.block ?_ | refine CW.skip ?_ | refine CW.exit ?_ | refine CW.ret ?_ | refine CW.regionF (by kernel_rfl) ?_ | refine CW.condT ?_ | refine CW.condF ?_ | refine OW.skip (by rfl) (List.cons_ne_nil _ _) (fun _ => ?_) | refine OW.nil ?_ | refine OW.gT ?_ | refine OW.gF ?_ | refine OW.gF0 ?_ | refine OW.w (by constructor; omega; omega) ?_ | refine OW.decT (by omega) ?_ | refine OW.decF (by omega) ?_ | refine OW.dec (fun _ => ?_) (fun _ => ?_) | refine OW.p ?_ | refine OW.p0 ?_ | refine OW.ix (by constructor; omega; omega) ?_ | refine OW.ixA (by constructor; omega; omega) ?_ | refine OW.a (fun _ => ?_) | refine OW.u ?_ | refine thenK_n ?_ | refine thenK_ret ?_ | refine thenK_exit ?_ | refine blockK_n ?_ | refine blockK_ret ?_ | refine blockK_same ?_ | refine blockK_other ?_)
          exact bodyK.retD L (Res.one Tryz.results15) ⟨bad fun h => h4 h.2.2.2, rfl⟩
      · have eA : EqA Tryz.prog 25 [.int .i64 a.h0, .int .i64 a.h1] [.int .i64 b.h0, .int .i64 b.h1] false := decide_eq_false h3 ▸ eqHold'
        repeat' (first | refine CW.seq ?_ | refine CW.block ?_ | refine CW.skip ?_ | refine CW.exit ?_ | refine CW.ret ?_ | refine CW.regionF (by kernel_rfl) ?_ | refine CW.condT ?_ | refine CW.condF ?_ | refine OW.skip (by rfl) (List.cons_ne_nil _ _) (fun _ => ?_) | refine OW.nil ?_ | refine OW.gT ?_ | refine OW.gF ?_ | refine OW.gF0 ?_ | refine OW.w (by constructor; omega; omega) ?_ | refine OW.decT (by omega) ?_ | refine OW.decF (by omega) ?_ | refine OW.dec (fun _ => ?_) (fun _ => ?_) | refine OW.p ?_ | refine OW.p0 ?_ | refine OW.ix (by constructor; omega; omega) ?_ | refine OW.ixA (by constructor; omega; omega) ?_ | refine OW.a (fun _ => ?_) | refine OW.u ?_ | refine thenK_n ?_ | refine thenK_ret ?_ | refine thenK_exit ?_ | refine blockK_n ?_ | refine blockK_ret ?_ | refine blockK_same ?_ | refine blockK_other ?_)
        exact bodyK.retD L (Res.one Tryz.results15) ⟨bad fun h => h3 h.2.2.1, rfl⟩
    · repeat' (first | refine CW.seq ?_ | refine CW.block ?_ | refine CW.skip ?_ | refine CW.exit ?_ | refine CW.ret ?_ | refine CW.regionF (by kernel_rfl) ?_ | refine CW.condT ?_ | refine CW.condF ?_ | refine OW.skip (by rfl) (List.cons_ne_nil _ _) (fun _ => ?_) | refine OW.nil ?_ | refine OW.gT ?_ | refine OW.gF ?_ | refine OW.gF0 ?_ | refine OW.w (by constructor; omega; omega) ?_ | refine OW.decT (by omega) ?_ | refine OW.decF (by omega) ?_ | refine OW.dec (fun _ => ?_) (fun _ => ?_) | refine OW.p ?_ | refine OW.p0 ?_ | refine OW.ix (by constructor; omega; omega) ?_ | refine OW.ixA (by constructor; omega; omega) ?_ | refine OW.a (fun _ => ?_) | refine OW.u ?_ | refine thenK_n ?_ | refine thenK_ret ?_ | refine thenK_exit ?_ | refine blockK_n ?_ | refine blockK_ret ?_ | refine blockK_same ?_ | refine blockK_other ?_)
      exact bodyK.retD L (Res.one Tryz.results15) ⟨bad fun h => h2 h.2.1, rfl⟩
  · repeat' (first | refine CW.seq ?_ | refine CW.block ?_ | refine CW.skip ?_ | refine CW.exit ?_ | refine CW.ret ?_ | refine CW.regionF (by kernel_rfl) ?_ | refine CW.condT ?_ | refine CW.condF ?_ | refine OW.skip (by rfl) (List.cons_ne_nil _ _) (fun _ => ?_) | refine OW.nil ?_ | refine OW.gT ?_ | refine OW.gF ?_ | refine OW.gF0 ?_ | refine OW.w (by constructor; omega; omega) ?_ | refine OW.decT (by omega) ?_ | refine OW.decF (by omega) ?_ | refine OW.dec (fun _ => ?_) (fun _ => ?_) | refine OW.p ?_ | refine OW.p0 ?_ | refine OW.ix (by constructor; omega; omega) ?_ | refine OW.ixA (by constructor; omega; omega) ?_ | refine OW.a (fun _ => ?_) | refine OW.u ?_ | refine thenK_n ?_ | refine thenK_ret ?_ | refine thenK_exit ?_ | refine blockK_n ?_ | refine blockK_ret ?_ | refine blockK_same ?_ | refine blockK_other ?_)
    exact bodyK.retD L (Res.one Tryz.results15) ⟨bad fun h => h1 h.1, rfl⟩
end Go.Proofs.YtlfdaepkoagnbaaGreat

namespace Go.Proofs.YtlfdaepkoagnbaaGreat
open Go Go.Pw Go.Pw.Sc
set_option maxRecDepth 100000
set_option maxHeartbeats 4000000
set_option synthInstance.maxHeartbeats 400000
set_option synthInstance.maxSize 2000
attribute [local irreducible] CW OW RW thenK blockK
attribute [local irreducible] scopeK loopK


theorem num9 (e : Int) (L : Chunk) : Fn1 Tryz.prog 9 [.int .i64 e] L (fun v L' => v = .int .i64 e ∧ L = L') := by
  intro w0; refine Spec.enter1 Tryz.func9 rfl Tryz.ntmps9 (by decide) ?_
  repeat' (first | refine CW.seq ?_ | refine CW.block ?_ | refine CW.skip ?_ | refine CW.exit ?_ | refine CW.ret ?_ | refine CW.regionF (by kernel_rfl) ?_ | refine CW.condT ?_ | refine CW.condF ?_ | refine OW.skip (by rfl) (List.cons_ne_nil _ _) (fun _ => ?_) | refine OW.nil ?_ | refine OW.gT ?_ | refine OW.gF ?_ | refine OW.gF0 ?_ | refine OW.w (by constructor; omega; omega) ?_ | refine OW.decT (by omega) ?_ | refine OW.decF (by omega) ?_ | refine OW.dec (fun _ => ?_) (fun _ => ?_) | refine OW.p ?_ | refine OW.p0 ?_ | refine OW.ix (by constructor; omega; omega) ?_ | refine OW.ixA (by constructor; omega; omega) ?_ | refine OW.a (fun _ => ?_) | refine OW.u ?_ | refine thenK_n ?_ | refine thenK_ret ?_ | refine thenK_exit ?_ | refine blockK_n ?_ | refine blockK_ret ?_ | refine blockK_same ?_ | refine blockK_other ?_)
  exact bodyK.ret (Res.one Tryz.results9) ⟨rfl, rfl⟩

theorem works6 (L : Chunk) : Fn1 Tryz.prog 6 [] L (fun v L' => v = .bool true ∧ L = L') := by
  intro w0; refine Spec.enter0 Tryz.func6 rfl Tryz.ntmps6 ?_
  repeat' (first | refine CW.seq ?_ | refine CW.block ?_ | refine CW.skip ?_ | refine CW.exit ?_ | refine CW.ret ?_ | refine CW.regionF (by kernel_rfl) ?_ | refine CW.condT ?_ | refine CW.condF ?_ | refine OW.skip (by rfl) (List.cons_ne_nil _ _) (fun _ => ?_) | refine OW.nil ?_ | refine OW.gT ?_ | refine OW.gF ?_ | refine OW.gF0 ?_ | refine OW.w (by constructor; omega; omega) ?_ | refine OW.decT (by omega) ?_ | refine OW.decF (by omega) ?_ | refine OW.dec (fun _ => ?_) (fun _ => ?_) | refine OW.p ?_ | refine OW.p0 ?_ | refine OW.ix (by constructor; omega; omega) ?_ | refine OW.ixA (by constructor; omega; omega) ?_ | refine OW.a (fun _ => ?_) | refine OW.u ?_ | refine thenK_n ?_ | refine thenK_ret ?_ | refine thenK_exit ?_ | refine blockK_n ?_ | refine blockK_ret ?_ | refine blockK_same ?_ | refine blockK_other ?_)
  rename_i bs b1
  have ht : TS ((b1, .cells #[.int .i64 1, .int .u64 2, .int .i64 3, .int .i64 4, .slice (some ⟨bs, 0, none⟩) 1 1] 28 (0, 0)) :: (bs, .cells #[.int .i64 4, .int .i64 0, .int .i64 0, .int .i64 5, .int .i64 0, .int .i64 0, .int .i64 0, .int .u32 0, .int .u64 0, .int .u64 0, .int .u64 0, .slice none 0 0, .slice none 0 0] 47 (0, 0)) :: L) (.slice (some ⟨bs, 0, none⟩) 1 1) l0.turns :=
    ⟨⟨tcells t0 (.slice none 0 0) (.slice none 0 0), Rd.blk (by rfl) (by decide), ⟨_, [], by simp, ⟨_, _, rfl, BS.nil _, BS.nil _, tr_t0⟩, rfl⟩⟩, by decide⟩
  refine OW.call (encode11 l0 (.slice (some ⟨bs, 0, none⟩) 1 1) _ ht lr_l0) ?_
  rintro _ _ ⟨N, u, rfl, rfl, hcase⟩
  rcases hcase with ⟨_, hrow⟩ | ⟨h, _⟩
  case inr => exact absurd check_l0 h
  rw [check_l0]
  rw [encode_l0] at hrow
  have hrow : Row 5 1 N u 22 (bv b0) := hrow
  have hbu := Row.bs hrow byt_b0 (by decide)
  have hbh := hbu.hi (n := 21) (by decide)
  have shh := hbh.sng
  obtain ⟨ua, uc, rfl⟩ := hrow.slice
  repeat' (first | refine CW.seq ?_ | refine CW.block ?_ | refine CW.skip ?_ | refine CW.exit ?_ | refine CW.ret ?_ | refine CW.regionF (by kernel_rfl) ?_ | refine CW.condT ?_ | refine CW.condF ?_ | refine OW.skip (by rfl) (List.cons_ne_nil _ _) (fun _ => ?_) | refine OW.nil ?_ | refine OW.gT ?_ | refine OW.gF ?_ | refine OW.gF0 ?_ | refine OW.w (by constructor; omega; omega) ?_ | refine OW.decT (by omega) ?_ | refine OW.decF (by omega) ?_ | refine OW.dec (fun _ => ?_) (fun _ => ?_) | refine OW.p ?_ | refine OW.p0 ?_ | refine OW.ix (by constructor; omega; omega) ?_ | refine OW.ixA (by constructor; omega; omega) ?_ | refine OW.a (fun _ => ?_) | refine OW.u ?_ | refine thenK_n ?_ | refine thenK_ret ?_ | refine thenK_exit ?_ | refine blockK_n ?_ | refine blockK_ret ?_ | refine blockK_same ?_ | refine blockK_other ?_)
  refine OW.call (sdecode7 _ b0 _ hbu.to) ?_
  rintro _ _ ⟨N2, vt2, l2, no2, rfl, rfl, hd2, ht2, hl2⟩
  have e2 := decode_b0.symm.trans hd2
  simp only [Prod.mk.injEq] at e2
  obtain ⟨rfl, rfl⟩ := e2
  have s2 := ht2.sng
  repeat' (first | refine CW.seq ?_ | refine CW.block ?_ | refine CW.skip ?_ | refine CW.exit ?_ | refine CW.ret ?_ | refine CW.regionF (by kernel_rfl) ?_ | refine CW.condT ?_ | refine CW.condF ?_ | refine OW.skip (by rfl) (List.cons_ne_nil _ _) (fun _ => ?_) | refine OW.nil ?_ | refine OW.gT ?_ | refine OW.gF ?_ | refine OW.gF0 ?_ | refine OW.w (by constructor; omega; omega) ?_ | refine OW.decT (by omega) ?_ | refine OW.decF (by omega) ?_ | refine OW.dec (fun _ => ?_) (fun _ => ?_) | refine OW.p ?_ | refine OW.p0 ?_ | refine OW.ix (by constructor; omega; omega) ?_ | refine OW.ixA (by constructor; omega; omega) ?_ | refine OW.a (fun _ => ?_) | refine OW.u ?_ | refine thenK_n ?_ | refine thenK_ret ?_ | refine thenK_exit ?_ | refine blockK_n ?_ | refine blockK_ret ?_ | refine blockK_same ?_ | refine blockK_other ?_)
  refine OW.makeSlice (by decide) (fun bm => ?_)
  repeat' (first | refine CW.seq ?_ | refine CW.block ?_ | refine CW.skip ?_ | refine CW.exit ?_ | refine CW.ret ?_ | refine CW.regionF (by kernel_rfl) ?_ | refine CW.condT ?_ | refine CW.condF ?_ | refine OW.skip (by rfl) (List.cons_ne_nil _ _) (fun _ => ?_) | refine OW.nil ?_ | refine OW.gT ?_ | refine OW.gF ?_ | refine OW.gF0 ?_ | refine OW.w (by constructor; omega; omega) ?_ | refine OW.decT (by omega) ?_ | refine OW.decF (by omega) ?_ | refine OW.dec (fun _ => ?_) (fun _ => ?_) | refine OW.p ?_ | refine OW.p0 ?_ | refine OW.ix (by constructor; omega; omega) ?_ | refine OW.ixA (by constructor; omega; omega) ?_ | refine OW.a (fun _ => ?_) | refine OW.u ?_ | refine thenK_n ?_ | refine thenK_ret ?_ | refine thenK_exit ?_ | refine blockK_n ?_ | refine blockK_ret ?_ | refine blockK_same ?_ | refine blockK_other ?_)
  rename_i bn
  have hrm : Row 5 1 [(bm, .cells (List.replicate 20 (Value.int .u8 0)).toArray 5 (0, 0))] (.slice (some ⟨bm, 0, none⟩) 20 20) 20 (bv (List.replicate 20 0)) := Row.build rfl
  refine OW.append hrm inferInstance (Rd.blk (by rfl) (by decide)) SngL.out (by decide) (fun v3 N3 hrow3 => ?_)
  have hrow3 : Row 5 1 N3 v3 21 (bv (List.replicate 20 0 ++ [7])) := hrow3
  have s3 := hrow3.sng
  have hb3 := Row.bs hrow3 byt_b1 (by decide)
  repeat' (first | refine CW.seq ?_ | refine CW.block ?_ | refine CW.skip ?_ | refine CW.exit ?_ | refine CW.ret ?_ | refine CW.regionF (by kernel_rfl) ?_ | refine CW.condT ?_ | refine CW.condF ?_ | refine OW.skip (by rfl) (List.cons_ne_nil _ _) (fun _ => ?_) | refine OW.nil ?_ | refine OW.gT ?_ | refine OW.gF ?_ | refine OW.gF0 ?_ | refine OW.w (by constructor; omega; omega) ?_ | refine OW.decT (by omega) ?_ | refine OW.decF (by omega) ?_ | refine OW.dec (fun _ => ?_) (fun _ => ?_) | refine OW.p ?_ | refine OW.p0 ?_ | refine OW.ix (by constructor; omega; omega) ?_ | refine OW.ixA (by constructor; omega; omega) ?_ | refine OW.a (fun _ => ?_) | refine OW.u ?_ | refine thenK_n ?_ | refine thenK_ret ?_ | refine thenK_exit ?_ | refine blockK_n ?_ | refine blockK_ret ?_ | refine blockK_same ?_ | refine blockK_other ?_)
  refine OW.call (sdecode7 v3 _ _ hb3.to) ?_
  rintro _ _ ⟨N4, vt4, l4, no4, rfl, rfl, hd4, ht4, hl4⟩
  have e4 := decode_b1.symm.trans hd4
  simp only [Prod.mk.injEq] at e4
  obtain ⟨rfl, rfl⟩ := e4
  have s4 := ht4.sng
  repeat' (first | refine CW.seq ?_ | refine CW.block ?_ | refine CW.skip ?_ | refine CW.exit ?_ | refine CW.ret ?_ | refine CW.regionF (by kernel_rfl) ?_ | refine CW.condT ?_ | refine CW.condF ?_ | refine OW.skip (by rfl) (List.cons_ne_nil _ _) (fun _ => ?_) | refine OW.nil ?_ | refine OW.gT ?_ | refine OW.gF ?_ | refine OW.gF0 ?_ | refine OW.w (by constructor; omega; omega) ?_ | refine OW.decT (by omega) ?_ | refine OW.decF (by omega) ?_ | refine OW.dec (fun _ => ?_) (fun _ => ?_) | refine OW.p ?_ | refine OW.p0 ?_ | refine OW.ix (by constructor; omega; omega) ?_ | refine OW.ixA (by constructor; omega; omega) ?_ | refine OW.a (fun _ => ?_) | refine OW.u ?_ | refine thenK_n ?_ | refine thenK_ret ?_ | refine thenK_exit ?_ | refine blockK_n ?_ | refine blockK_ret ?_ | refine blockK_same ?_ | refine blockK_other ?_)
  refine OW.bytesStr hbu.rd ?_
  refine OW.decF (by decide) ?_
  repeat' (first | refine CW.seq ?_ | refine CW.block ?_ | refine CW.skip ?_ | refine CW.exit ?_ | refine CW.ret ?_ | refine CW.regionF (by kernel_rfl) ?_ | refine CW.condT ?_ | refine CW.condF ?_ | refine OW.skip (by rfl) (List.cons_ne_nil _ _) (fun _ => ?_) | refine OW.nil ?_ | refine OW.gT ?_ | refine OW.gF ?_ | refine OW.gF0 ?_ | refine OW.w (by constructor; omega; omega) ?_ | refine OW.decT (by omega) ?_ | refine OW.decF (by omega) ?_ | refine OW.dec (fun _ => ?_) (fun _ => ?_) | refine OW.p ?_ | refine OW.p0 ?_ | refine OW.ix (by constructor; omega; omega) ?_ | refine OW.ixA (by constructor; omega; omega) ?_ | refine OW.a (fun _ => ?_) | refine OW.u ?_ | refine thenK_n ?_ | refine thenK_ret ?_ | refine thenK_exit ?_ | refine blockK_n ?_ | refine blockK_ret ?_ | refine blockK_same ?_ | refine blockK_other ?_)
  refine OW.slHi hbu.rd ⟨by decide, by decide⟩ ?_
  rw [show (((22 : Nat) : Int) - 1).toNat = 21 from rfl]
  repeat' (first | refine CW.seq ?_ | refine CW.block ?_ | refine CW.skip ?_ | refine CW.exit ?_ | refine CW.ret ?_ | refine CW.regionF (by kernel_rfl) ?_ | refine CW.condT ?_ | refine CW.condF ?_ | refine OW.skip (by rfl) (List.cons_ne_nil _ _) (fun _ => ?_) | refine OW.nil ?_ | refine OW.gT ?_ | refine OW.gF ?_ | refine OW.gF0 ?_ | refine OW.w (by constructor; omega; omega) ?_ | refine OW.decT (by omega) ?_ | refine OW.decF (by omega) ?_ | refine OW.dec (fun _ => ?_) (fun _ => ?_) | refine OW.p ?_ | refine OW.p0 ?_ | refine OW.ix (by constructor; omega; omega) ?_ | refine OW.ixA (by constructor; omega; omega) ?_ | refine OW.a (fun _ => ?_) | refine OW.u ?_ | refine thenK_n ?_ | refine thenK_ret ?_ | refine thenK_exit ?_ | refine blockK_n ?_ | refine blockK_ret ?_ | refine blockK_same ?_ | refine blockK_other ?_)
  refine OW.call (sdecode7 _ _ _ hbh.to) ?_
  rintro _ _ ⟨N5, vt5, l5, no5, rfl, rfl, hd5, ht5, hl5⟩
  have e5 := decode_b2.symm.trans hd5
  simp only [Prod.mk.injEq] at e5
  obtain ⟨rfl, rfl⟩ := e5
  have s5 := ht5.sng
  repeat' (first | refine CW.seq ?_ | refine CW.block ?_ | refine CW.skip ?_ | refine CW.exit ?_ | refine CW.ret ?_ | refine CW.regionF (by kernel_rfl) ?_ | refine CW.condT ?_ | refine CW.condF ?_ | refine OW.skip (by rfl) (List.cons_ne_nil _ _) (fun _ => ?_) | refine OW.nil ?_ | refine OW.gT ?_ | refine OW.gF ?_ | refine OW.gF0 ?_ | refine OW.w (by constructor; omega; omega) ?_ | refine OW.decT (by omega) ?_ | refine OW.decF (by omega) ?_ | refine OW.dec (fun _ => ?_) (fun _ => ?_) | refine OW.p ?_ | refine OW.p0 ?_ | refine OW.ix (by constructor; omega; omega) ?_ | refine OW.ixA (by constructor; omega; omega) ?_ | refine OW.a (fun _ => ?_) | refine OW.u ?_ | refine thenK_n ?_ | refine thenK_ret ?_ | refine thenK_exit ?_ | refine blockK_n ?_ | refine blockK_ret ?_ | refine blockK_same ?_ | refine blockK_other ?_)
  refine OW.call (num9 0 _) ?_
  rintro _ _ ⟨rfl, rfl⟩
  repeat' (first | refine CW.seq ?_ | refine CW.block ?_ | refine CW.skip ?_ | refine CW.exit ?_ | refine CW.ret ?_ | refine CW.regionF (by kernel_rfl) ?_ | refine CW.condT ?_ | refine CW.condF ?_ | refine OW.skip (by rfl) (List.cons_ne_nil _ _) (fun _ => ?_) | refine OW.nil ?_ | refine OW.gT ?_ | refine OW.gF ?_ | refine OW.gF0 ?_ | refine OW.w (by constructor; omega; omega) ?_ | refine OW.decT (by omega) ?_ | refine OW.decF (by omega) ?_ | refine OW.dec (fun _ => ?_) (fun _ => ?_) | refine OW.p ?_ | refine OW.p0 ?_ | refine OW.ix (by constructor; omega; omega) ?_ | refine OW.ixA (by constructor; omega; omega) ?_ | refine OW.a (fun _ => ?_) | refine OW.u ?_ | refine thenK_n ?_ | refine thenK_ret ?_ | refine thenK_exit ?_ | refine blockK_n ?_ | refine blockK_ret ?_ | refine blockK_same ?_ | refine blockK_other ?_)
  refine OW.call (num9 0 _) ?_
  rintro _ _ ⟨rfl, rfl⟩
  repeat' (first | refine CW.seq ?_ | refine CW.block ?_ | refine CW.skip ?_ | refine CW.exit ?_ | refine CW.ret ?_ | refine CW.regionF (by kernel_rfl) ?_ | refine CW.condT ?_ | refine CW.condF ?_ | refine OW.skip (by rfl) (List.cons_ne_nil _ _) (fun _ => ?_) | refine OW.nil ?_ | refine OW.gT ?_ | refine OW.gF ?_ | refine OW.gF0 ?_ | refine OW.w (by constructor; omega; omega) ?_ | refine OW.decT (by omega) ?_ | refine OW.decF (by omega) ?_ | refine OW.dec (fun _ => ?_) (fun _ => ?_) | refine OW.p ?_ | refine OW.p0 ?_ | refine OW.ix (by constructor; omega; omega) ?_ | refine OW.ixA (by constructor; omega; omega) ?_ | refine OW.a (fun _ => ?_) | refine OW.u ?_ | refine thenK_n ?_ | refine thenK_ret ?_ | refine thenK_exit ?_ | refine blockK_n ?_ | refine blockK_ret ?_ | refine blockK_same ?_ | refine blockK_other ?_)
  refine OW.call (ssame15 l0 l0 (.slice (some ⟨bs, 0, none⟩) 1 1) vt2 _ ht.to ht2.to) ?_
  rintro _ _ ⟨rfl, rfl⟩
  rw [decide_eq_true (same_refl l0)]
  repeat' (first | refine CW.seq ?_ | refine CW.block ?_ | refine CW.skip ?_ | refine CW.exit ?_ | refine CW.ret ?_ | refine CW.regionF (by kernel_rfl) ?_ | refine CW.condT ?_ | refine CW.condF ?_ | refine OW.skip (by rfl) (List.cons_ne_nil _ _) (fun _ => ?_) | refine OW.nil ?_ | refine OW.gT ?_ | refine OW.gF ?_ | refine OW.gF0 ?_ | refine OW.w (by constructor; omega; omega) ?_ | refine OW.decT (by omega) ?_ | refine OW.decF (by omega) ?_ | refine OW.dec (fun _ => ?_) (fun _ => ?_) | refine OW.p ?_ | refine OW.p0 ?_ | refine OW.ix (by constructor; omega; omega) ?_ | refine OW.ixA (by constructor; omega; omega) ?_ | refine OW.a (fun _ => ?_) | refine OW.u ?_ | refine thenK_n ?_ | refine thenK_ret ?_ | refine thenK_exit ?_ | refine blockK_n ?_ | refine blockK_ret ?_ | refine blockK_same ?_ | refine blockK_other ?_)
  refine OW.call (num9 380 _) ?_
  rintro _ _ ⟨rfl, rfl⟩
  repeat' (first | refine CW.seq ?_ | refine CW.block ?_ | refine CW.skip ?_ | refine CW.exit ?_ | refine CW.ret ?_ | refine CW.regionF (by kernel_rfl) ?_ | refine CW.condT ?_ | refine CW.condF ?_ | refine OW.skip (by rfl) (List.cons_ne_nil _ _) (fun _ => ?_) | refine OW.nil ?_ | refine OW.gT ?_ | refine OW.gF ?_ | refine OW.gF0 ?_ | refine OW.w (by constructor; omega; omega) ?_ | refine OW.decT (by omega) ?_ | refine OW.decF (by omega) ?_ | refine OW.dec (fun _ => ?_) (fun _ => ?_) | refine OW.p ?_ | refine OW.p0 ?_ | refine OW.ix (by constructor; omega; omega) ?_ | refine OW.ixA (by constructor; omega; omega) ?_ | refine OW.a (fun _ => ?_) | refine OW.u ?_ | refine thenK_n ?_ | refine thenK_ret ?_ | refine thenK_exit ?_ | refine blockK_n ?_ | refine blockK_ret ?_ | refine blockK_same ?_ | refine blockK_other ?_)
  refine OW.call (num9 380 _) ?_
  rintro _ _ ⟨rfl, rfl⟩
  repeat' (first | refine CW.seq ?_ | refine CW.block ?_ | refine CW.skip ?_ | refine CW.exit ?_ | refine CW.ret ?_ | refine CW.regionF (by kernel_rfl) ?_ | refine CW.condT ?_ | refine CW.condF ?_ | refine OW.skip (by rfl) (List.cons_ne_nil _ _) (fun _ => ?_) | refine OW.nil ?_ | refine OW.gT ?_ | refine OW.gF ?_ | refine OW.gF0 ?_ | refine OW.w (by constructor; omega; omega) ?_ | refine OW.decT (by omega) ?_ | refine OW.decF (by omega) ?_ | refine OW.dec (fun _ => ?_) (fun _ => ?_) | refine OW.p ?_ | refine OW.p0 ?_ | refine OW.ix (by constructor; omega; omega) ?_ | refine OW.ixA (by constructor; omega; omega) ?_ | refine OW.a (fun _ => ?_) | refine OW.u ?_ | refine thenK_n ?_ | refine thenK_ret ?_ | refine thenK_exit ?_ | refine blockK_n ?_ | refine blockK_ret ?_ | refine blockK_same ?_ | refine blockK_other ?_)
  exact bodyK.retD L (Res.one Tryz.results6) ⟨rfl, rfl⟩
end Go.Proofs.YtlfdaepkoagnbaaGreat

namespace Go.Proofs.YtlfdaepkoagnbaaGreat
open Go Go.Pw Go.Pw.Sc
set_option maxRecDepth 100000
set_option maxHeartbeats 4000000
set_option synthInstance.maxHeartbeats 400000
set_option synthInstance.maxSize 2000
attribute [local irreducible] CW OW RW thenK blockK
attribute [local irreducible] scopeK loopK


theorem pw1 : (256 : Int) ^ (1 : Int).toNat = 256 := rfl
theorem pw2 : (256 : Int) ^ (2 : Int).toNat = 65536 := rfl
theorem pw4 : (256 : Int) ^ (4 : Int).toNat = 4294967296 := rfl
theorem pw8 : (256 : Int) ^ (8 : Int).toNat = 18446744073709551616 := rfl
theorem rowLen {N : Chunk} {v : Value} {k : Nat} {ys zs : List Int} (h : Row 5 1 N v k (bv ys)) (e : ys = zs) : Row 5 1 N v zs.length (bv zs) := by
  subst e
  have := h.1
  rw [bv_length, Nat.mul_one] at this
  rwa [this]
end Go.Proofs.YtlfdaepkoagnbaaGreat

namespace Go.Proofs.YtlfdaepkoagnbaaGreat
open Go Go.Pw Go.Pw.Sc
set_option maxRecDepth 100000
set_option maxHeartbeats 4000000
set_option synthInstance.maxHeartbeats 400000
set_option synthInstance.maxSize 2000
attribute [local irreducible] CW OW RW thenK blockK
attribute [local irreducible] scopeK loopK


/-- A reader's block. -/
@[reducible] def rdr (br : Nat) (v : Value) (bad : Bool) : Nat × Obj := (br, .cells #[v, .bool bad] 69 (0, 0))

theorem take141 (br : Nat) (n : Int) (v : Value) (bad : Bool) (xs : List Int) (D L : Chunk) {C : Chunk → Chunk} [hat : At L [rdr br v bad] C] [hD : MemC D (C [])] (hv : BS D v xs) (hn : 0 ≤ n) (hl : xs.length ≤ 65536) :
    Fn1 Tryz.prog 47 [.pointer (some ⟨br, 0, none⟩), .int .i64 n] L (fun u L' => ∃ N v' bad' a xs', L' = N ++ C [rdr br v' bad'] ∧ BS N u a ∧ BS D v' xs' ∧ RdP (takeP n.toNat) xs bad a xs' bad' ∧ xs'.length ≤ xs.length ∧ a.length ≤ 65536) := by
  intro w0; refine Spec.enter2 Tryz.func47 rfl Tryz.ntmps47 (by decide) ?_
  have hv0 := hv
  have sv := hv.sng
  obtain ⟨A, B, rfl, hC⟩ := hat.out
  simp only [hC] at hD ⊢
  clear hC hat
  obtain ⟨va, vc, rfl⟩ := hv.slice
  have hbad : ∀ (L' : Chunk), L' = A ++ [rdr br (.slice va xs.length vc) true] ++ B → (bad = true ∨ takeP n.toNat xs = none) → ∃ N v' bad' a xs', L' = N ++ (A ++ [rdr br v' bad'] ++ B) ∧ BS N (.slice none 0 0) a ∧ BS D v' xs' ∧ RdP (takeP n.toNat) xs bad a xs' bad' ∧ xs'.length ≤ xs.length ∧ a.length ≤ 65536 :=
    fun L' e h => ⟨[], _, true, [], xs, e, BS.nil _, hv0, ⟨fun _ => h, fun e => (by cases e)⟩, Nat.le_refl _, by simp⟩
  cases bad with
  | true =>
    repeat' (first | refine CW.seq ?_ | refine CW.block ?_ | refine CW.skip ?_ | refine CW.exit ?_ | refine CW.ret ?_ | refine CW.regionF (by kernel_rfl) ?_ | refine CW.condT ?_ | refine CW.condF ?_ | refine OW.skip (by rfl) (List.cons_ne_nil _ _) (fun _ => ?_) | refine OW.nil ?_ | refine OW.gT ?_ | refine OW.gF ?_ | refine OW.gF0 ?_ | refine OW.w (by constructor; omega; omega) ?_ | refine OW.decT (by omega) ?_ | refine OW.decF (by omega) ?_ | refine OW.dec (fun _ => ?_) (fun _ => ?_) | refine OW.p ?_ | refine OW.p0 ?_ | refine OW.ix (by constructor; omega; omega) ?_ | refine OW.ixA (by constructor; omega; omega) ?_ | refine OW.a (fun _ => ?_) | refine OW.u ?_ | refine thenK_n ?_ | refine thenK_ret ?_ | refine thenK_exit ?_ | refine blockK_n ?_ | refine blockK_ret ?_ | refine blockK_same ?_ | refine blockK_other ?_)
    exact bodyK.ret (Res.one Tryz.results47) (hbad _ rfl (.inl rfl))
  | false =>
    by_cases hlt : n ≤ xs.length
    · repeat' (first | refine CW.seq ?_ | refine CW.block ?_ | refine CW.skip ?_ | refine CW.exit ?_ | refine CW.ret ?_ | refine CW.regionF (by kernel_rfl) ?_ | refine CW.condT ?_ | refine CW.condF ?_ | refine OW.skip (by rfl) (List.cons_ne_nil _ _) (fun _ => ?_) | refine OW.nil ?_ | refine OW.gT ?_ | refine OW.gF ?_ | refine OW.gF0 ?_ | refine OW.w (by constructor; omega; omega) ?_ | refine OW.decT (by omega) ?_ | refine OW.decF (by omega) ?_ | refine OW.dec (fun _ => ?_) (fun _ => ?_) | refine OW.p ?_ | refine OW.p0 ?_ | refine OW.ix (by constructor; omega; omega) ?_ | refine OW.ixA (by constructor; omega; omega) ?_ | refine OW.a (fun _ => ?_) | refine OW.u ?_ | refine thenK_n ?_ | refine thenK_ret ?_ | refine thenK_exit ?_ | refine blockK_n ?_ | refine blockK_ret ?_ | refine blockK_same ?_ | refine blockK_other ?_)
      refine OW.slHi hv.rd (by omega) ?_
      repeat' (first | refine CW.seq ?_ | refine CW.block ?_ | refine CW.skip ?_ | refine CW.exit ?_ | refine CW.ret ?_ | refine CW.regionF (by kernel_rfl) ?_ | refine CW.condT ?_ | refine CW.condF ?_ | refine OW.skip (by rfl) (List.cons_ne_nil _ _) (fun _ => ?_) | refine OW.nil ?_ | refine OW.gT ?_ | refine OW.gF ?_ | refine OW.gF0 ?_ | refine OW.w (by constructor; omega; omega) ?_ | refine OW.decT (by omega) ?_ | refine OW.decF (by omega) ?_ | refine OW.dec (fun _ => ?_) (fun _ => ?_) | refine OW.p ?_ | refine OW.p0 ?_ | refine OW.ix (by constructor; omega; omega) ?_ | refine OW.ixA (by constructor; omega; omega) ?_ | refine OW.a (fun _ => ?_) | refine OW.u ?_ | refine thenK_n ?_ | refine thenK_ret ?_ | refine thenK_exit ?_ | refine blockK_n ?_ | refine blockK_ret ?_ | refine blockK_same ?_ | refine blockK_other ?_)
      refine OW.slLo hv.rd (by omega) ?_
      have hh := hv.hi (n := n.toNat) (by omega)
      have hlo := hv.lo (n := n.toNat) (by omega)
      have s1 := hlo.sng
      have s2 := hh.sng
      have hDB : MemC D (A ++ ([] ++ B)) := by simpa using hD
      repeat' (first | refine CW.seq ?_ | refine CW.block ?_ | refine CW.skip ?_ | refine CW.exit ?_ | refine CW.ret ?_ | refine CW.regionF (by kernel_rfl) ?_ | refine CW.condT ?_ | refine CW.condF ?_ | refine OW.skip (by rfl) (List.cons_ne_nil _ _) (fun _ => ?_) | refine OW.nil ?_ | refine OW.gT ?_ | refine OW.gF ?_ | refine OW.gF0 ?_ | refine OW.w (by constructor; omega; omega) ?_ | refine OW.decT (by omega) ?_ | refine OW.decF (by omega) ?_ | refine OW.dec (fun _ => ?_) (fun _ => ?_) | refine OW.p ?_ | refine OW.p0 ?_ | refine OW.ix (by constructor; omega; omega) ?_ | refine OW.ixA (by constructor; omega; omega) ?_ | refine OW.a (fun _ => ?_) | refine OW.u ?_ | refine thenK_n ?_ | refine thenK_ret ?_ | refine thenK_exit ?_ | refine blockK_n ?_ | refine blockK_ret ?_ | refine blockK_same ?_ | refine blockK_other ?_)
      rename_i bz
      have hrow : Row 5 1 [(bz, .cells #[] 5 (0, 0))] (.slice (some ⟨bz, 0, none⟩) 0 0) 0 (bv []) := Row.build rfl
      refine OW.append (L := (bz, .cells #[] 5 (0, 0)) :: (A ++ [rdr br (slV (.slice va xs.length vc) n.toNat xs.length 1) false] ++ B)) hrow inferInstance (hh.rd.mono (L' := (bz, .cells #[] 5 (0, 0)) :: (A ++ [rdr br (slV (.slice va xs.length vc) n.toNat xs.length 1) false] ++ B)) ?_) (bv_sng _) (by rw [List.length_take]; omega) (fun v' N' hrow' => ?_)
      · intro p hp
        have := hD.out p hp
        simp only [List.append_nil, List.mem_append] at this
        simp only [List.mem_cons, List.mem_append]
        rcases this with h | h
        · exact .inr (.inl (.inl h))
        · exact .inr (.inr h)
      rw [← bv_app, List.nil_append] at hrow'
      have s3 := hrow'.sng
      repeat' (first | refine CW.seq ?_ | refine CW.block ?_ | refine CW.skip ?_ | refine CW.exit ?_ | refine CW.ret ?_ | refine CW.regionF (by kernel_rfl) ?_ | refine CW.condT ?_ | refine CW.condF ?_ | refine OW.skip (by rfl) (List.cons_ne_nil _ _) (fun _ => ?_) | refine OW.nil ?_ | refine OW.gT ?_ | refine OW.gF ?_ | refine OW.gF0 ?_ | refine OW.w (by constructor; omega; omega) ?_ | refine OW.decT (by omega) ?_ | refine OW.decF (by omega) ?_ | refine OW.dec (fun _ => ?_) (fun _ => ?_) | refine OW.p ?_ | refine OW.p0 ?_ | refine OW.ix (by constructor; omega; omega) ?_ | refine OW.ixA (by constructor; omega; omega) ?_ | refine OW.a (fun _ => ?_) | refine OW.u ?_ | refine thenK_n ?_ | refine thenK_ret ?_ | refine thenK_exit ?_ | refine blockK_n ?_ | refine blockK_ret ?_ | refine blockK_same ?_ | refine blockK_other ?_)
      refine bodyK.ret (Res.one Tryz.results47) ⟨N', _, false, _, _, rfl, Row.bs hrow' hh.byt hh.len, hlo, RdP.good ?_, by simp, by simp; omega⟩
      unfold takeP
      rw [if_pos (by omega)]
    · repeat' (first | refine CW.seq ?_ | refine CW.block ?_ | refine CW.skip ?_ | refine CW.exit ?_ | refine CW.ret ?_ | refine CW.regionF (by kernel_rfl) ?_ | refine CW.condT ?_ | refine CW.condF ?_ | refine OW.skip (by rfl) (List.cons_ne_nil _ _) (fun _ => ?_) | refine OW.nil ?_ | refine OW.gT ?_ | refine OW.gF ?_ | refine OW.gF0 ?_ | refine OW.w (by constructor; omega; omega) ?_ | refine OW.decT (by omega) ?_ | refine OW.decF (by omega) ?_ | refine OW.dec (fun _ => ?_) (fun _ => ?_) | refine OW.p ?_ | refine OW.p0 ?_ | refine OW.ix (by constructor; omega; omega) ?_ | refine OW.ixA (by constructor; omega; omega) ?_ | refine OW.a (fun _ => ?_) | refine OW.u ?_ | refine thenK_n ?_ | refine thenK_ret ?_ | refine thenK_exit ?_ | refine blockK_n ?_ | refine blockK_ret ?_ | refine blockK_same ?_ | refine blockK_other ?_)
      refine bodyK.ret (Res.one Tryz.results47) (hbad _ rfl (.inr ?_))
      unfold takeP
      rw [if_neg (by omega)]
end Go.Proofs.YtlfdaepkoagnbaaGreat

namespace Go.Proofs.YtlfdaepkoagnbaaGreat
open Go Go.Pw Go.Pw.Sc
set_option maxRecDepth 100000
set_option maxHeartbeats 4000000
set_option synthInstance.maxHeartbeats 400000
set_option synthInstance.maxSize 2000
attribute [local irreducible] CW OW RW thenK blockK


theorem width152 (k : Int) (L : Chunk) : Fn1 Tryz.prog 58 [.int .i64 k] L (fun v L' => v = .bool (decide (isW k)) ∧ L = L') := by
  intro w0; refine Spec.enter1 Tryz.func58 rfl Tryz.ntmps58 (by decide) ?_
  repeat' (first | refine CW.seq ?_ | refine CW.block ?_ | refine CW.skip ?_ | refine CW.exit ?_ | refine CW.ret ?_ | refine CW.regionF (by kernel_rfl) ?_ | refine CW.condT ?_ | refine CW.condF ?_ | refine OW.skip (by rfl) (List.cons_ne_nil _ _) (fun _ => ?_) | refine OW.nil ?_ | refine OW.gT ?_ | refine OW.gF ?_ | refine OW.gF0 ?_ | refine OW.w (by constructor; omega; omega) ?_ | refine OW.decT (by omega) ?_ | refine OW.decF (by omega) ?_ | refine OW.dec (fun _ => ?_) (fun _ => ?_) | refine OW.p ?_ | refine OW.p0 ?_ | refine OW.ix (by constructor; omega; omega) ?_ | refine OW.ixA (by constructor; omega; omega) ?_ | refine OW.a (fun _ => ?_) | refine OW.u ?_ | refine thenK_n ?_ | refine thenK_ret ?_ | refine thenK_exit ?_ | refine blockK_n ?_ | refine blockK_ret ?_ | refine blockK_same ?_ | refine blockK_other ?_)
  all_goals refine bodyK.ret (Res.one Tryz.results58) ⟨?_, rfl⟩
  all_goals simp [isW, *]

theorem put01 (n w : Int) (h0 : 0 ≤ n) (h1 : n < 18446744073709551616) (L : Chunk) :
    Fn1 Tryz.prog 35 [.int .u64 n, .int .i64 w] L (fun v L' => ∃ N u no, v = .tuple #[u, .int .i64 no] ∧ L' = N ++ L ∧ PutR n w N u no) := by
  intro w0; refine Spec.enter2 Tryz.func35 rfl Tryz.ntmps35 (by decide) ?_
  repeat' (first | refine CW.seq ?_ | refine CW.block ?_ | refine CW.skip ?_ | refine CW.exit ?_ | refine CW.ret ?_ | refine CW.regionF (by kernel_rfl) ?_ | refine CW.condT ?_ | refine CW.condF ?_ | refine OW.skip (by rfl) (List.cons_ne_nil _ _) (fun _ => ?_) | refine OW.nil ?_ | refine OW.gT ?_ | refine OW.gF ?_ | refine OW.gF0 ?_ | refine OW.w (by constructor; omega; omega) ?_ | refine OW.quo (by refine ⟨?_, ?_, ?_, ?_⟩; omega; omega; omega; omega) ?_ | refine OW.rem (by constructor; omega; omega) ?_ | refine OW.decT (by omega) ?_ | refine OW.decF (by omega) ?_ | refine OW.dec (fun _ => ?_) (fun _ => ?_) | refine OW.p ?_ | refine OW.p0 ?_ | refine OW.ix (by constructor; omega; omega) ?_ | refine OW.ixA (by constructor; omega; omega) ?_ | refine OW.a (fun _ => ?_) | refine OW.u ?_ | refine thenK_n ?_ | refine thenK_ret ?_ | refine thenK_exit ?_ | refine blockK_n ?_ | refine blockK_ret ?_ | refine blockK_same ?_ | refine blockK_other ?_)
  refine OW.call (width152 w L) ?_
  rintro v L' ⟨rfl, rfl⟩
  by_cases hw : isW w
  · rw [decide_eq_true hw]
    repeat' (first | refine CW.seq ?_ | refine CW.block ?_ | refine CW.skip ?_ | refine CW.exit ?_ | refine CW.ret ?_ | refine CW.regionF (by kernel_rfl) ?_ | refine CW.condT ?_ | refine CW.condF ?_ | refine OW.skip (by rfl) (List.cons_ne_nil _ _) (fun _ => ?_) | refine OW.nil ?_ | refine OW.gT ?_ | refine OW.gF ?_ | refine OW.gF0 ?_ | refine OW.w (by constructor; omega; omega) ?_ | refine OW.quo (by refine ⟨?_, ?_, ?_, ?_⟩; omega; omega; omega; omega) ?_ | refine OW.rem (by constructor; omega; omega) ?_ | refine OW.decT (by omega) ?_ | refine OW.decF (by omega) ?_ | refine OW.dec (fun _ => ?_) (fun _ => ?_) | refine OW.p ?_ | refine OW.p0 ?_ | refine OW.ix (by constructor; omega; omega) ?_ | refine OW.ixA (by constructor; omega; omega) ?_ | refine OW.a (fun _ => ?_) | refine OW.u ?_ | refine thenK_n ?_ | refine thenK_ret ?_ | refine thenK_exit ?_ | refine blockK_n ?_ | refine blockK_ret ?_ | refine blockK_same ?_ | refine blockK_other ?_)
    refine CW.loop (fun m ρ ds L' => ∃ (i : Nat) (N : Chunk) (u : Value), m + i = w.toNat ∧ ds = [] ∧ L' = N ++ L ∧ Row 5 1 N u i (bv (leB i n)) ∧ Ev ρ 0 (.int .u64 (n / 256 ^ i)) ∧ Ev ρ 1 (.int .i64 w) ∧ Ev ρ 6 u ∧ Ev ρ 7 (.int .i64 i)) w.toNat ⟨0, [], _, by omega, rfl, rfl, Row.nil _ 1, by rw [Int.pow_zero, Int.ediv_one]; infer_instance, inferInstance, inferInstance, inferInstance⟩ ?_
    rintro m ρ ds L' ⟨i, N, u, hm, rfl, rfl, hrow, e0, e1, e6, e7⟩
    have hq0 : 0 ≤ n / 256 ^ i := Int.ediv_nonneg h0 (Int.pow_nonneg (by omega))
    have hq1 : n / 256 ^ i ≤ n := Int.ediv_le_self _ h0
    have hw9 : w.toNat ≤ 8 := by rcases hw with rfl | rfl | rfl | rfl <;> decide
    have hw0 : 0 ≤ w := by rcases hw with rfl | rfl | rfl | rfl <;> decide
    by_cases hi : (i : Int) < w
    · repeat' (first | refine CW.seq ?_ | refine CW.block ?_ | refine CW.skip ?_ | refine CW.exit ?_ | refine CW.ret ?_ | refine CW.regionF (by kernel_rfl) ?_ | refine CW.condT ?_ | refine CW.condF ?_ | refine OW.skip (by rfl) (List.cons_ne_nil _ _) (fun _ => ?_) | refine OW.nil ?_ | refine OW.gT ?_ | refine OW.gF ?_ | refine OW.gF0 ?_ | refine OW.w (by constructor; omega; omega) ?_ | refine OW.quo (by refine ⟨?_, ?_, ?_, ?_⟩; omega; omega; omega; omega) ?_ | refine OW.rem (by constructor; omega; omega) ?_ | refine OW.decT (by omega) ?_ | refine OW.decF (by omega) ?_ | refine OW.dec (fun _ => ?_) (fun _ => ?_) | refine OW.p ?_ | refine OW.p0 ?_ | refine OW.ix (by constructor; omega; omega) ?_ | refine OW.ixA (by constructor; omega; omega) ?_ | refine OW.a (fun _ => ?_) | refine OW.u ?_ | refine thenK_n ?_ | refine thenK_ret ?_ | refine thenK_exit ?_ | refine blockK_n ?_ | refine blockK_ret ?_ | refine blockK_same ?_ | refine blockK_other ?_)
      refine OW.append hrow inferInstance (Rd.blk (by rfl) (by decide)) (by intro v hv; simp at hv; subst hv; infer_instance) (by omega) (fun v' N' hrow' => ?_)
      refine OW.drop (L' := N' ++ L) SubC.out ?_
      repeat' (first | refine CW.seq ?_ | refine CW.block ?_ | refine CW.skip ?_ | refine CW.exit ?_ | refine CW.ret ?_ | refine CW.regionF (by kernel_rfl) ?_ | refine CW.condT ?_ | refine CW.condF ?_ | refine OW.skip (by rfl) (List.cons_ne_nil _ _) (fun _ => ?_) | refine OW.nil ?_ | refine OW.gT ?_ | refine OW.gF ?_ | refine OW.gF0 ?_ | refine OW.w (by constructor; omega; omega) ?_ | refine OW.quo (by refine ⟨?_, ?_, ?_, ?_⟩; omega; omega; omega; omega) ?_ | refine OW.rem (by constructor; omega; omega) ?_ | refine OW.decT (by omega) ?_ | refine OW.decF (by omega) ?_ | refine OW.dec (fun _ => ?_) (fun _ => ?_) | refine OW.p ?_ | refine OW.p0 ?_ | refine OW.ix (by constructor; omega; omega) ?_ | refine OW.ixA (by constructor; omega; omega) ?_ | refine OW.a (fun _ => ?_) | refine OW.u ?_ | refine thenK_n ?_ | refine thenK_ret ?_ | refine thenK_exit ?_ | refine blockK_n ?_ | refine blockK_ret ?_ | refine blockK_same ?_ | refine blockK_other ?_)
      refine ⟨m - 1, by omega, i + 1, N', v', by omega, rfl, rfl, by rw [leB_snoc, bv_snoc]; exact hrow', ?_, inferInstance, inferInstance, inferInstance⟩
      rw [Int.pow_succ, ← Int.ediv_ediv_of_nonneg (Int.pow_nonneg (by omega))]; infer_instance
    · obtain rfl : i = w.toNat := by omega
      repeat' (first | refine CW.seq ?_ | refine CW.block ?_ | refine CW.skip ?_ | refine CW.exit ?_ | refine CW.ret ?_ | refine CW.regionF (by kernel_rfl) ?_ | refine CW.condT ?_ | refine CW.condF ?_ | refine OW.skip (by rfl) (List.cons_ne_nil _ _) (fun _ => ?_) | refine OW.nil ?_ | refine OW.gT ?_ | refine OW.gF ?_ | refine OW.gF0 ?_ | refine OW.w (by constructor; omega; omega) ?_ | refine OW.quo (by refine ⟨?_, ?_, ?_, ?_⟩; omega; omega; omega; omega) ?_ | refine OW.rem (by constructor; omega; omega) ?_ | refine OW.decT (by omega) ?_ | refine OW.decF (by omega) ?_ | refine OW.dec (fun _ => ?_) (fun _ => ?_) | refine OW.p ?_ | refine OW.p0 ?_ | refine OW.ix (by constructor; omega; omega) ?_ | refine OW.ixA (by constructor; omega; omega) ?_ | refine OW.a (fun _ => ?_) | refine OW.u ?_ | refine thenK_n ?_ | refine thenK_ret ?_ | refine thenK_exit ?_ | refine blockK_n ?_ | refine blockK_ret ?_ | refine blockK_same ?_ | refine blockK_other ?_)
      · exact bodyK.retD L (Res.two Tryz.results35) ⟨[], _, _, rfl, rfl, by rw [PutR, if_pos hw, if_pos ‹_›]; exact ⟨rfl, rfl, rfl⟩⟩
      · exact bodyK.ret (Res.two Tryz.results35) ⟨N, _, _, rfl, rfl, by rw [PutR, if_pos hw, if_neg ‹_›]; exact ⟨hrow, rfl⟩⟩
  · rw [decide_eq_false hw]
    repeat' (first | refine CW.seq ?_ | refine CW.block ?_ | refine CW.skip ?_ | refine CW.exit ?_ | refine CW.ret ?_ | refine CW.regionF (by kernel_rfl) ?_ | refine CW.condT ?_ | refine CW.condF ?_ | refine OW.skip (by rfl) (List.cons_ne_nil _ _) (fun _ => ?_) | refine OW.nil ?_ | refine OW.gT ?_ | refine OW.gF ?_ | refine OW.gF0 ?_ | refine OW.w (by constructor; omega; omega) ?_ | refine OW.quo (by refine ⟨?_, ?_, ?_, ?_⟩; omega; omega; omega; omega) ?_ | refine OW.rem (by constructor; omega; omega) ?_ | refine OW.decT (by omega) ?_ | refine OW.decF (by omega) ?_ | refine OW.dec (fun _ => ?_) (fun _ => ?_) | refine OW.p ?_ | refine OW.p0 ?_ | refine OW.ix (by constructor; omega; omega) ?_ | refine OW.ixA (by constructor; omega; omega) ?_ | refine OW.a (fun _ => ?_) | refine OW.u ?_ | refine thenK_n ?_ | refine thenK_ret ?_ | refine thenK_exit ?_ | refine blockK_n ?_ | refine blockK_ret ?_ | refine blockK_same ?_ | refine blockK_other ?_)
    exact bodyK.ret (Res.two Tryz.results35) ⟨[], _, _, rfl, rfl, by rw [PutR, if_neg hw]; exact ⟨rfl, rfl, rfl⟩⟩
end Go.Proofs.YtlfdaepkoagnbaaGreat

namespace Go.Proofs.YtlfdaepkoagnbaaGreat
open Go Go.Pw Go.Pw.Sc
set_option maxRecDepth 100000
set_option maxHeartbeats 4000000
set_option synthInstance.maxHeartbeats 400000
set_option synthInstance.maxSize 2000
attribute [local irreducible] CW OW RW thenK blockK
attribute [local irreducible] scopeK loopK


theorem pow_le8 {w : Int} (h : isW w) : (256 : Int) ^ w.toNat ≤ 18446744073709551616 := by rcases h with rfl | rfl | rfl | rfl <;> decide
theorem putR_row {n w : Int} {N : Chunk} {u : Value} {no : Int} (hw : isW w) (h0 : 0 ≤ n) (h1 : n < 256 ^ w.toNat) (h : PutR n w N u no) : Row 5 1 N u w.toNat (bv (leB w.toNat n)) ∧ no = 0 := by
  have e : n / 256 ^ w.toNat = 0 := Int.ediv_eq_zero_of_lt h0 h1
  rw [PutR, if_pos hw, if_neg (by rw [e]; decide)] at h
  exact h

theorem put74 {N : Chunk} {C : Chunk → Chunk} {vb : Value} {k : Nat} {xs : List Int} (n w : Int) (hw : isW w) (h0 : 0 ≤ n) (h1 : n < 256 ^ w.toNat) (L : Chunk) [hat : At L N C] (hrow : Row 5 1 N vb k (bv xs)) (hk : k ≤ 1000000) :
    Fn1 Tryz.prog 34 [vb, .int .i64 n, .int .i64 w] L (fun v L' => ∃ N', L' = C N' ∧ Row 5 1 N' v (k + w.toNat) (bv (xs ++ leB w.toNat n))) := by
  intro w0; refine Spec.enter3 Tryz.func34 rfl Tryz.ntmps34 (by decide) ?_
  have sb := hrow.sng
  have h8 := pow_le8 hw
  have hw8 : w.toNat ≤ 8 := by rcases hw with rfl | rfl | rfl | rfl <;> decide
  repeat' (first | refine CW.seq ?_ | refine CW.block ?_ | refine CW.skip ?_ | refine CW.exit ?_ | refine CW.ret ?_ | refine CW.regionF (by kernel_rfl) ?_ | refine CW.condT ?_ | refine CW.condF ?_ | refine OW.skip (by rfl) (List.cons_ne_nil _ _) (fun _ => ?_) | refine OW.nil ?_ | refine OW.gT ?_ | refine OW.gF ?_ | refine OW.gF0 ?_ | refine OW.w (by constructor; omega; omega) ?_ | refine OW.decT (by omega) ?_ | refine OW.decF (by omega) ?_ | refine OW.dec (fun _ => ?_) (fun _ => ?_) | refine OW.p ?_ | refine OW.p0 ?_ | refine OW.ix (by constructor; omega; omega) ?_ | refine OW.ixA (by constructor; omega; omega) ?_ | refine OW.a (fun _ => ?_) | refine OW.u ?_ | refine thenK_n ?_ | refine thenK_ret ?_ | refine thenK_exit ?_ | refine blockK_n ?_ | refine blockK_ret ?_ | refine blockK_same ?_ | refine blockK_other ?_)
  refine OW.call (put01 n w h0 (by omega) _) ?_
  rintro v L' ⟨N1, u, no, rfl, rfl, hP⟩
  obtain ⟨hr1, rfl⟩ := putR_row hw h0 h1 hP
  have s1 := hr1.sng
  repeat' (first | refine CW.seq ?_ | refine CW.block ?_ | refine CW.skip ?_ | refine CW.exit ?_ | refine CW.ret ?_ | refine CW.regionF (by kernel_rfl) ?_ | refine CW.condT ?_ | refine CW.condF ?_ | refine OW.skip (by rfl) (List.cons_ne_nil _ _) (fun _ => ?_) | refine OW.nil ?_ | refine OW.gT ?_ | refine OW.gF ?_ | refine OW.gF0 ?_ | refine OW.w (by constructor; omega; omega) ?_ | refine OW.decT (by omega) ?_ | refine OW.decF (by omega) ?_ | refine OW.dec (fun _ => ?_) (fun _ => ?_) | refine OW.p ?_ | refine OW.p0 ?_ | refine OW.ix (by constructor; omega; omega) ?_ | refine OW.ixA (by constructor; omega; omega) ?_ | refine OW.a (fun _ => ?_) | refine OW.u ?_ | refine thenK_n ?_ | refine thenK_ret ?_ | refine thenK_exit ?_ | refine blockK_n ?_ | refine blockK_ret ?_ | refine blockK_same ?_ | refine blockK_other ?_)
  refine OW.append hrow inferInstance hr1.to (bv_sng _) (by omega) (fun v' N' hrow' => ?_)
  refine OW.drop (L' := C N') (List.sublist_append_right ..) ?_
  repeat' (first | refine CW.seq ?_ | refine CW.block ?_ | refine CW.skip ?_ | refine CW.exit ?_ | refine CW.ret ?_ | refine CW.regionF (by kernel_rfl) ?_ | refine CW.condT ?_ | refine CW.condF ?_ | refine OW.skip (by rfl) (List.cons_ne_nil _ _) (fun _ => ?_) | refine OW.nil ?_ | refine OW.gT ?_ | refine OW.gF ?_ | refine OW.gF0 ?_ | refine OW.w (by constructor; omega; omega) ?_ | refine OW.decT (by omega) ?_ | refine OW.decF (by omega) ?_ | refine OW.dec (fun _ => ?_) (fun _ => ?_) | refine OW.p ?_ | refine OW.p0 ?_ | refine OW.ix (by constructor; omega; omega) ?_ | refine OW.ixA (by constructor; omega; omega) ?_ | refine OW.a (fun _ => ?_) | refine OW.u ?_ | refine thenK_n ?_ | refine thenK_ret ?_ | refine thenK_exit ?_ | refine blockK_n ?_ | refine blockK_ret ?_ | refine blockK_same ?_ | refine blockK_other ?_)
  rw [← bv_app] at hrow'
  have s2 := hrow'.sng
  exact bodyK.ret (Res.one Tryz.results34) ⟨N', rfl, hrow'⟩

/-- The number of bytes, as the document has it. -/
theorem get142 (vb : Value) (xs : List Int) (L : Chunk) (hb : BS L vb xs) :
    Fn1 Tryz.prog 48 [vb] L (fun v L' => v = (if isW xs.length then .tuple #[.int .u64 (leN xs), .int .i64 0] else .tuple #[.int .u64 0, .int .i64 2]) ∧ L = L') := by
  intro w0; refine Spec.enter1 Tryz.func48 rfl Tryz.ntmps48 (by decide) ?_
  obtain ⟨a, c, rfl⟩ := hb.slice
  have hlen := hb.len
  repeat' (first | refine CW.seq ?_ | refine CW.block ?_ | refine CW.skip ?_ | refine CW.exit ?_ | refine CW.ret ?_ | refine CW.regionF (by kernel_rfl) ?_ | refine CW.condT ?_ | refine CW.condF ?_ | refine OW.skip (by rfl) (List.cons_ne_nil _ _) (fun _ => ?_) | refine OW.nil ?_ | refine OW.gT ?_ | refine OW.gF ?_ | refine OW.gF0 ?_ | refine OW.w (by constructor; omega; omega) ?_ | refine OW.decT (by omega) ?_ | refine OW.decF (by omega) ?_ | refine OW.dec (fun _ => ?_) (fun _ => ?_) | refine OW.p ?_ | refine OW.p0 ?_ | refine OW.ix (by constructor; omega; omega) ?_ | refine OW.ixA (by constructor; omega; omega) ?_ | refine OW.a (fun _ => ?_) | refine OW.u ?_ | refine thenK_n ?_ | refine thenK_ret ?_ | refine thenK_exit ?_ | refine blockK_n ?_ | refine blockK_ret ?_ | refine blockK_same ?_ | refine blockK_other ?_)
  refine OW.call (width152 _ _) ?_
  rintro v L' ⟨rfl, rfl⟩
  by_cases hw : isW xs.length
  · rw [decide_eq_true hw]
    repeat' (first | refine CW.seq ?_ | refine CW.block ?_ | refine CW.skip ?_ | refine CW.exit ?_ | refine CW.ret ?_ | refine CW.regionF (by kernel_rfl) ?_ | refine CW.condT ?_ | refine CW.condF ?_ | refine OW.skip (by rfl) (List.cons_ne_nil _ _) (fun _ => ?_) | refine OW.nil ?_ | refine OW.gT ?_ | refine OW.gF ?_ | refine OW.gF0 ?_ | refine OW.w (by constructor; omega; omega) ?_ | refine OW.decT (by omega) ?_ | refine OW.decF (by omega) ?_ | refine OW.dec (fun _ => ?_) (fun _ => ?_) | refine OW.p ?_ | refine OW.p0 ?_ | refine OW.ix (by constructor; omega; omega) ?_ | refine OW.ixA (by constructor; omega; omega) ?_ | refine OW.a (fun _ => ?_) | refine OW.u ?_ | refine thenK_n ?_ | refine thenK_ret ?_ | refine thenK_exit ?_ | refine blockK_n ?_ | refine blockK_ret ?_ | refine blockK_same ?_ | refine blockK_other ?_)
    have hw8 : xs.length ≤ 8 := by rcases hw with h | h | h | h <;> omega
    refine CW.loop (fun m ρ ds L' => m ≤ xs.length ∧ ds = [] ∧ L' = L ∧ Ev ρ 0 (.slice a xs.length c) ∧ Ev ρ 4 (.int .u64 (leN (xs.drop m))) ∧ Ev ρ 5 (.int .i64 (m - 1))) xs.length ⟨Nat.le_refl _, rfl, rfl, inferInstance, by rw [List.drop_length]; infer_instance, inferInstance⟩ ?_
    rintro m ρ ds L' ⟨hm, rfl, rfl, e0, e4, e5⟩
    cases m with
    | zero =>
      repeat' (first | refine CW.seq ?_ | refine CW.block ?_ | refine CW.skip ?_ | refine CW.exit ?_ | refine CW.ret ?_ | refine CW.regionF (by kernel_rfl) ?_ | refine CW.condT ?_ | refine CW.condF ?_ | refine OW.skip (by rfl) (List.cons_ne_nil _ _) (fun _ => ?_) | refine OW.nil ?_ | refine OW.gT ?_ | refine OW.gF ?_ | refine OW.gF0 ?_ | refine OW.w (by constructor; omega; omega) ?_ | refine OW.decT (by omega) ?_ | refine OW.decF (by omega) ?_ | refine OW.dec (fun _ => ?_) (fun _ => ?_) | refine OW.p ?_ | refine OW.p0 ?_ | refine OW.ix (by constructor; omega; omega) ?_ | refine OW.ixA (by constructor; omega; omega) ?_ | refine OW.a (fun _ => ?_) | refine OW.u ?_ | refine thenK_n ?_ | refine thenK_ret ?_ | refine thenK_exit ?_ | refine blockK_n ?_ | refine blockK_ret ?_ | refine blockK_same ?_ | refine blockK_other ?_)
      exact bodyK.ret (Res.two Tryz.results48) ⟨by rw [if_pos hw]; rfl, rfl⟩
    | succ j =>
      have e5' : Ev ρ 5 (.int .i64 (j : Int)) := by have := e5; rwa [show (((j + 1 : Nat) : Int) - 1) = (j : Int) by omega] at this
      clear e5
      obtain ⟨b, k, cap, l, e, fr, hv, hinb, hcap, hnth⟩ := hb.rd.open1 (by omega)
      cases hv
      have hj : j < xs.length := by omega
      have hn := hnth j _ hj (bv_get hj)
      have hbx := hb.byt
      have hsplit : xs.drop j = xs[j] :: xs.drop (j + 1) := List.drop_eq_getElem_cons hj
      have hby : Byt8 (xs[j] :: xs.drop (j + 1)) := hsplit ▸ fun y hy => hbx y (List.mem_of_mem_drop hy)
      have hb0 := hby _ (List.mem_cons_self ..)
      have hor := or_step hby (by simp; omega)
      rw [← hsplit] at hor
      repeat' (first | refine CW.seq ?_ | refine CW.block ?_ | refine CW.skip ?_ | refine CW.exit ?_ | refine CW.ret ?_ | refine CW.regionF (by kernel_rfl) ?_ | refine CW.condT ?_ | refine CW.condF ?_ | refine OW.skip (by rfl) (List.cons_ne_nil _ _) (fun _ => ?_) | refine OW.nil ?_ | refine OW.gT ?_ | refine OW.gF ?_ | refine OW.gF0 ?_ | refine OW.w (by constructor; omega; omega) ?_ | refine OW.decT (by omega) ?_ | refine OW.decF (by omega) ?_ | refine OW.dec (fun _ => ?_) (fun _ => ?_) | refine OW.p ?_ | refine OW.p0 ?_ | refine OW.ix (by constructor; omega; omega) ?_ | refine OW.ixA (by constructor; omega; omega) ?_ | refine OW.a (fun _ => ?_) | refine OW.u ?_ | refine thenK_n ?_ | refine thenK_ret ?_ | refine thenK_exit ?_ | refine blockK_n ?_ | refine blockK_ret ?_ | refine blockK_same ?_ | refine blockK_other ?_)
      rw [hor]
      exact ⟨j, by omega, by omega, rfl, rfl, inferInstance, inferInstance, inferInstance⟩
  · rw [decide_eq_false hw]
    repeat' (first | refine CW.seq ?_ | refine CW.block ?_ | refine CW.skip ?_ | refine CW.exit ?_ | refine CW.ret ?_ | refine CW.regionF (by kernel_rfl) ?_ | refine CW.condT ?_ | refine CW.condF ?_ | refine OW.skip (by rfl) (List.cons_ne_nil _ _) (fun _ => ?_) | refine OW.nil ?_ | refine OW.gT ?_ | refine OW.gF ?_ | refine OW.gF0 ?_ | refine OW.w (by constructor; omega; omega) ?_ | refine OW.decT (by omega) ?_ | refine OW.decF (by omega) ?_ | refine OW.dec (fun _ => ?_) (fun _ => ?_) | refine OW.p ?_ | refine OW.p0 ?_ | refine OW.ix (by constructor; omega; omega) ?_ | refine OW.ixA (by constructor; omega; omega) ?_ | refine OW.a (fun _ => ?_) | refine OW.u ?_ | refine thenK_n ?_ | refine thenK_ret ?_ | refine thenK_exit ?_ | refine blockK_n ?_ | refine blockK_ret ?_ | refine blockK_same ?_ | refine blockK_other ?_)
    exact bodyK.ret (Res.two Tryz.results48) ⟨by rw [if_neg hw], rfl⟩
end Go.Proofs.YtlfdaepkoagnbaaGreat

namespace Go.Proofs.YtlfdaepkoagnbaaGreat
open Go Go.Pw Go.Pw.Sc
set_option maxRecDepth 100000
set_option maxHeartbeats 4000000
set_option synthInstance.maxHeartbeats 400000
set_option synthInstance.maxSize 2000
attribute [local irreducible] CW OW RW thenK blockK
attribute [local irreducible] scopeK loopK


theorem number65 (br : Nat) (w : Int) (hw : isW w) (v : Value) (bad : Bool) (xs : List Int) (D L : Chunk) {C : Chunk → Chunk} [hat : At L [rdr br v bad] C] [hD : MemC D (C [])] (hv : BS D v xs) (hl : xs.length ≤ 65536) :
    Fn1 Tryz.prog 25 [.pointer (some ⟨br, 0, none⟩), .int .i64 w] L (fun u L' => ∃ v' bad' n xs', u = .int .u64 n ∧ L' = C [rdr br v' bad'] ∧ BS D v' xs' ∧ RdP (numP w.toNat) xs bad n xs' bad' ∧ xs'.length ≤ xs.length ∧ 0 ≤ n ∧ n < 256 ^ w.toNat) := by
  intro w0; refine Spec.enter2 Tryz.func25 rfl Tryz.ntmps25 (by decide) ?_
  have hw0 : 0 ≤ w := by rcases hw with rfl | rfl | rfl | rfl <;> decide
  repeat' (first | refine CW.seq ?_ | refine CW.block ?_ | refine CW.skip ?_ | refine CW.exit ?_ | refine CW.ret ?_ | refine CW.regionF (by kernel_rfl) ?_ | refine CW.condT ?_ | refine CW.condF ?_ | refine OW.skip (by rfl) (List.cons_ne_nil _ _) (fun _ => ?_) | refine OW.nil ?_ | refine OW.gT ?_ | refine OW.gF ?_ | refine OW.gF0 ?_ | refine OW.w (by constructor; omega; omega) ?_ | refine OW.decT (by omega) ?_ | refine OW.decF (by omega) ?_ | refine OW.dec (fun _ => ?_) (fun _ => ?_) | refine OW.p ?_ | refine OW.p0 ?_ | refine OW.ix (by constructor; omega; omega) ?_ | refine OW.ixA (by constructor; omega; omega) ?_ | refine OW.a (fun _ => ?_) | refine OW.u ?_ | refine thenK_n ?_ | refine thenK_ret ?_ | refine thenK_exit ?_ | refine blockK_n ?_ | refine blockK_ret ?_ | refine blockK_same ?_ | refine blockK_other ?_)
  refine OW.call (take141 br w v bad xs D L hv hw0 hl) ?_
  rintro u _ ⟨N, v', bad', a, xs', rfl, hba, hv', hrd, hle, hla⟩
  obtain ⟨A, B, rfl, hC⟩ := hat.out
  simp only [hC] at hD ⊢
  clear hC hat
  have sa := hba.sng
  have sv' := hv'.sng
  cases bad' with
  | true =>
    repeat' (first | refine CW.seq ?_ | refine CW.block ?_ | refine CW.skip ?_ | refine CW.exit ?_ | refine CW.ret ?_ | refine CW.regionF (by kernel_rfl) ?_ | refine CW.condT ?_ | refine CW.condF ?_ | refine OW.skip (by rfl) (List.cons_ne_nil _ _) (fun _ => ?_) | refine OW.nil ?_ | refine OW.gT ?_ | refine OW.gF ?_ | refine OW.gF0 ?_ | refine OW.w (by constructor; omega; omega) ?_ | refine OW.decT (by omega) ?_ | refine OW.decF (by omega) ?_ | refine OW.dec (fun _ => ?_) (fun _ => ?_) | refine OW.p ?_ | refine OW.p0 ?_ | refine OW.ix (by constructor; omega; omega) ?_ | refine OW.ixA (by constructor; omega; omega) ?_ | refine OW.a (fun _ => ?_) | refine OW.u ?_ | refine thenK_n ?_ | refine thenK_ret ?_ | refine thenK_exit ?_ | refine blockK_n ?_ | refine blockK_ret ?_ | refine blockK_same ?_ | refine blockK_other ?_)
    exact bodyK.retD (A ++ [rdr br v' true] ++ B) (Res.one Tryz.results25) ⟨v', true, 0, xs', rfl, rfl, hv', hrd.numBad, hle, by omega, Int.pow_pos (by decide)⟩
  | false =>
    repeat' (first | refine CW.seq ?_ | refine CW.block ?_ | refine CW.skip ?_ | refine CW.exit ?_ | refine CW.ret ?_ | refine CW.regionF (by kernel_rfl) ?_ | refine CW.condT ?_ | refine CW.condF ?_ | refine OW.skip (by rfl) (List.cons_ne_nil _ _) (fun _ => ?_) | refine OW.nil ?_ | refine OW.gT ?_ | refine OW.gF ?_ | refine OW.gF0 ?_ | refine OW.w (by constructor; omega; omega) ?_ | refine OW.decT (by omega) ?_ | refine OW.decF (by omega) ?_ | refine OW.dec (fun _ => ?_) (fun _ => ?_) | refine OW.p ?_ | refine OW.p0 ?_ | refine OW.ix (by constructor; omega; omega) ?_ | refine OW.ixA (by constructor; omega; omega) ?_ | refine OW.a (fun _ => ?_) | refine OW.u ?_ | refine thenK_n ?_ | refine thenK_ret ?_ | refine thenK_exit ?_ | refine blockK_n ?_ | refine blockK_ret ?_ | refine blockK_same ?_ | refine blockK_other ?_)
    refine OW.call (get142 u a _ hba.to) ?_
    rintro _ _ ⟨rfl, rfl⟩
    have hlen : a.length = w.toNat := by
      have := (hrd.2 rfl).2
      exact (takeP_inv this).2
    have hwa : isW a.length := by
      have : ((a.length : Nat) : Int) = w := by omega
      rw [this]; exact hw
    rw [if_pos hwa]
    repeat' (first | refine CW.seq ?_ | refine CW.block ?_ | refine CW.skip ?_ | refine CW.exit ?_ | refine CW.ret ?_ | refine CW.regionF (by kernel_rfl) ?_ | refine CW.condT ?_ | refine CW.condF ?_ | refine OW.skip (by rfl) (List.cons_ne_nil _ _) (fun _ => ?_) | refine OW.nil ?_ | refine OW.gT ?_ | refine OW.gF ?_ | refine OW.gF0 ?_ | refine OW.w (by constructor; omega; omega) ?_ | refine OW.decT (by omega) ?_ | refine OW.decF (by omega) ?_ | refine OW.dec (fun _ => ?_) (fun _ => ?_) | refine OW.p ?_ | refine OW.p0 ?_ | refine OW.ix (by constructor; omega; omega) ?_ | refine OW.ixA (by constructor; omega; omega) ?_ | refine OW.a (fun _ => ?_) | refine OW.u ?_ | refine thenK_n ?_ | refine thenK_ret ?_ | refine thenK_exit ?_ | refine blockK_n ?_ | refine blockK_ret ?_ | refine blockK_same ?_ | refine blockK_other ?_)
    exact bodyK.retD (A ++ [rdr br v' false] ++ B) (Res.one Tryz.results25) ⟨v', false, leN a, xs', rfl, rfl, hv', hrd.num, hle, leN_nonneg _ hba.byt, hlen ▸ leN_lt _ hba.byt⟩

theorem small64 (br : Nat) (v : Value) (bad : Bool) (xs : List Int) (D L : Chunk) {C : Chunk → Chunk} [hat : At L [rdr br v bad] C] [hD : MemC D (C [])] (hv : BS D v xs) (hl : xs.length ≤ 65536) :
    Fn1 Tryz.prog 24 [.pointer (some ⟨br, 0, none⟩)] L (fun u L' => ∃ v' bad' n xs', u = .int .i64 n ∧ L' = C [rdr br v' bad'] ∧ BS D v' xs' ∧ RdP smallP xs bad n xs' bad' ∧ xs'.length ≤ xs.length ∧ 0 ≤ n ∧ n ≤ 2147483647) := by
  intro w0; refine Spec.enter1 Tryz.func24 rfl Tryz.ntmps24 (by decide) ?_
  repeat' (first | refine CW.seq ?_ | refine CW.block ?_ | refine CW.skip ?_ | refine CW.exit ?_ | refine CW.ret ?_ | refine CW.regionF (by kernel_rfl) ?_ | refine CW.condT ?_ | refine CW.condF ?_ | refine OW.skip (by rfl) (List.cons_ne_nil _ _) (fun _ => ?_) | refine OW.nil ?_ | refine OW.gT ?_ | refine OW.gF ?_ | refine OW.gF0 ?_ | refine OW.w (by constructor; omega; omega) ?_ | refine OW.decT (by omega) ?_ | refine OW.decF (by omega) ?_ | refine OW.dec (fun _ => ?_) (fun _ => ?_) | refine OW.p ?_ | refine OW.p0 ?_ | refine OW.ix (by constructor; omega; omega) ?_ | refine OW.ixA (by constructor; omega; omega) ?_ | refine OW.a (fun _ => ?_) | refine OW.u ?_ | refine thenK_n ?_ | refine thenK_ret ?_ | refine thenK_exit ?_ | refine blockK_n ?_ | refine blockK_ret ?_ | refine blockK_same ?_ | refine blockK_other ?_)
  refine OW.call (number65 br 4 (by decide) v bad xs D L hv hl) ?_
  rintro _ _ ⟨v', bad', n, xs', rfl, rfl, hv', hrd, hle, h0, h1⟩
  obtain ⟨A, B, rfl, hC⟩ := hat.out
  simp only [hC] at hD ⊢
  clear hC hat
  rw [pw4] at h1
  have sv' := hv'.sng
  by_cases hm : n ≤ most
  · have hm' := hm
    unfold most at hm'
    repeat' (first | refine CW.seq ?_ | refine CW.block ?_ | refine CW.skip ?_ | refine CW.exit ?_ | refine CW.ret ?_ | refine CW.regionF (by kernel_rfl) ?_ | refine CW.condT ?_ | refine CW.condF ?_ | refine OW.skip (by rfl) (List.cons_ne_nil _ _) (fun _ => ?_) | refine OW.nil ?_ | refine OW.gT ?_ | refine OW.gF ?_ | refine OW.gF0 ?_ | refine OW.w (by constructor; omega; omega) ?_ | refine OW.decT (by omega) ?_ | refine OW.decF (by omega) ?_ | refine OW.dec (fun _ => ?_) (fun _ => ?_) | refine OW.p ?_ | refine OW.p0 ?_ | refine OW.ix (by constructor; omega; omega) ?_ | refine OW.ixA (by constructor; omega; omega) ?_ | refine OW.a (fun _ => ?_) | refine OW.u ?_ | refine thenK_n ?_ | refine thenK_ret ?_ | refine thenK_exit ?_ | refine blockK_n ?_ | refine blockK_ret ?_ | refine blockK_same ?_ | refine blockK_other ?_)
    exact bodyK.ret (Res.one Tryz.results24) ⟨v', bad', n, xs', rfl, rfl, hv', hrd.small hm, hle, h0, hm'⟩
  · have hm' := hm
    unfold most at hm'
    repeat' (first | refine CW.seq ?_ | refine CW.block ?_ | refine CW.skip ?_ | refine CW.exit ?_ | refine CW.ret ?_ | refine CW.regionF (by kernel_rfl) ?_ | refine CW.condT ?_ | refine CW.condF ?_ | refine OW.skip (by rfl) (List.cons_ne_nil _ _) (fun _ => ?_) | refine OW.nil ?_ | refine OW.gT ?_ | refine OW.gF ?_ | refine OW.gF0 ?_ | refine OW.w (by constructor; omega; omega) ?_ | refine OW.decT (by omega) ?_ | refine OW.decF (by omega) ?_ | refine OW.dec (fun _ => ?_) (fun _ => ?_) | refine OW.p ?_ | refine OW.p0 ?_ | refine OW.ix (by constructor; omega; omega) ?_ | refine OW.ixA (by constructor; omega; omega) ?_ | refine OW.a (fun _ => ?_) | refine OW.u ?_ | refine thenK_n ?_ | refine thenK_ret ?_ | refine thenK_exit ?_ | refine blockK_n ?_ | refine blockK_ret ?_ | refine blockK_same ?_ | refine blockK_other ?_)
    exact bodyK.ret (Res.one Tryz.results24) ⟨v', true, 0, xs', rfl, rfl, hv', hrd.smallBad hm, hle, by decide, by decide⟩
end Go.Proofs.YtlfdaepkoagnbaaGreat
