/-
  For every life and all bytes the law pinfoldlaw28.ScriptBack returns true, and its input reads afterwards as before. This text holds the theorem itself.
  Conditions: none.
-/
import Derived.Test.YtlfdaepkoagnbaaGreatBk5
set_option linter.all false
namespace Go.Proofs.YtlfdaepkoagnbaaGreat
open Go Go.Pw Go.Pw.Sc
set_option maxRecDepth 100000
set_option maxHeartbeats 4000000
set_option synthInstance.maxHeartbeats 400000
set_option synthInstance.maxSize 2000
attribute [local irreducible] CW OW RW thenK blockK
attribute [local irreducible] scopeK loopK


theorem lr_picked {ts : List Turn} : LR ⟨1000, 7, 2, 1000, ts⟩ := LR.lit ⟨by omega, by omega⟩ ⟨by omega, by omega⟩ ⟨by omega, by omega⟩ ⟨by omega, by omega⟩
theorem check_picked {ts : List Turn} (h : ts.length ≤ 256) (hg : ∀ t ∈ ts, FineT t) : check ⟨1000, 7, 2, 1000, ts⟩ = 0 := by
  refine check_zero ⟨⟨⟨show (0 : Int) ≤ 1000 by decide, show (1000 : Int) ≤ 2147483647 by decide⟩, ⟨show (0 : Int) ≤ 2 by decide, show (2 : Int) ≤ 2147483647 by decide⟩, ⟨show (0 : Int) ≤ 1000 by decide, show (1000 : Int) ≤ 2147483647 by decide⟩⟩, fun t ht => (hg t ht).1⟩ ?_
  have h1 := turnsB_good hg
  show (leB 4 1000 ++ leB 8 7 ++ leB 4 2 ++ leB 4 1000 ++ turnsB ts).length ≤ _
  simp only [List.length_append, leB_length]
  omega

theorem scriptBack5 (l : Life) (vt vb : Value) (xs : List Int) (L : Chunk) (ht : TS L vt l.turns) (hr : LR l) (hb : BS L vb xs) : Fn1 Tryz.prog 5 [.agg (lcells l vt).toArray, vb] L (fun v L' => v = .bool true ∧ L = L') := by
  intro w0; refine Spec.enter2 Tryz.func5 rfl Tryz.ntmps5 (by decide) ?_
  have st := ht.sng
  have ht0 := ht
  have hlen := ht.len
  have sb := hb.sng
  have hb0 := hb
  have hlenb := hb.len
  obtain ⟨ta, tc, rfl⟩ := ht.slice
  obtain ⟨ba, bc, rfl⟩ := hb.slice
  by_cases h1 : l.turns.length ≤ 60
  · by_cases h2 : xs.length ≤ 3000
    · repeat' (first | refine CW.seq ?_ | refine CW.block ?_ | refine CW.skip ?_ | refine CW.exit ?_ | refine CW.ret ?_ | refine CW.regionF (by kernel_rfl) ?_ | refine CW.condT ?_ | refine CW.condF ?_ | refine OW.skip (by rfl) (List.cons_ne_nil _ _) (fun _ => ?_) | refine OW.nil ?_ | refine OW.gT ?_ | refine OW.gF ?_ | refine OW.gF0 ?_ | refine OW.w (by constructor; omega; omega) ?_ | refine OW.decT (by omega) ?_ | refine OW.decF (by omega) ?_ | refine OW.dec (fun _ => ?_) (fun _ => ?_) | refine OW.p ?_ | refine OW.p0 ?_ | refine OW.ix (by constructor; omega; omega) ?_ | refine OW.ixA (by constructor; omega; omega) ?_ | refine OW.a (fun _ => ?_) | refine OW.u ?_ | refine thenK_n ?_ | refine thenK_ret ?_ | refine thenK_exit ?_ | refine blockK_n ?_ | refine blockK_ret ?_ | refine blockK_same ?_ | refine blockK_other ?_)
      refine OW.call (encode11 l _ _ ht0.to hr) ?_
      rintro _ _ ⟨N, u, rfl, rfl, hcase⟩
      have su : Sng u := by
        rcases hcase with ⟨_, h⟩ | ⟨_, h⟩
        · exact h.sng
        · rw [h]; infer_instance
      rcases hcase with ⟨hc, hrow⟩ | ⟨hc, rfl⟩
      · rw [hc]
        have hbu := Row.bs hrow (encodeB_byt l ht0.byt) (by have := (check_eq.1 hc).2; omega)
        repeat' (first | refine CW.seq ?_ | refine CW.block ?_ | refine CW.skip ?_ | refine CW.exit ?_ | refine CW.ret ?_ | refine CW.regionF (by kernel_rfl) ?_ | refine CW.condT ?_ | refine CW.condF ?_ | refine OW.skip (by rfl) (List.cons_ne_nil _ _) (fun _ => ?_) | refine OW.nil ?_ | refine OW.gT ?_ | refine OW.gF ?_ | refine OW.gF0 ?_ | refine OW.w (by constructor; omega; omega) ?_ | refine OW.decT (by omega) ?_ | refine OW.decF (by omega) ?_ | refine OW.dec (fun _ => ?_) (fun _ => ?_) | refine OW.p ?_ | refine OW.p0 ?_ | refine OW.ix (by constructor; omega; omega) ?_ | refine OW.ixA (by constructor; omega; omega) ?_ | refine OW.a (fun _ => ?_) | refine OW.u ?_ | refine thenK_n ?_ | refine thenK_ret ?_ | refine thenK_exit ?_ | refine blockK_n ?_ | refine blockK_ret ?_ | refine blockK_same ?_ | refine blockK_other ?_)
        refine OW.call (num9 _ _) ?_
        rintro _ _ ⟨rfl, rfl⟩
        repeat' (first | refine CW.seq ?_ | refine CW.block ?_ | refine CW.skip ?_ | refine CW.exit ?_ | refine CW.ret ?_ | refine CW.regionF (by kernel_rfl) ?_ | refine CW.condT ?_ | refine CW.condF ?_ | refine OW.skip (by rfl) (List.cons_ne_nil _ _) (fun _ => ?_) | refine OW.nil ?_ | refine OW.gT ?_ | refine OW.gF ?_ | refine OW.gF0 ?_ | refine OW.w (by constructor; omega; omega) ?_ | refine OW.decT (by omega) ?_ | refine OW.decF (by omega) ?_ | refine OW.dec (fun _ => ?_) (fun _ => ?_) | refine OW.p ?_ | refine OW.p0 ?_ | refine OW.ix (by constructor; omega; omega) ?_ | refine OW.ixA (by constructor; omega; omega) ?_ | refine OW.a (fun _ => ?_) | refine OW.u ?_ | refine thenK_n ?_ | refine thenK_ret ?_ | refine thenK_exit ?_ | refine blockK_n ?_ | refine blockK_ret ?_ | refine blockK_same ?_ | refine blockK_other ?_)
        refine OW.call (sdecode7 u _ _ hbu.to) ?_
        rintro _ _ ⟨N2, vt2, l2, no2, rfl, rfl, hd2, ht2, hl2⟩
        have e2 := (decode_encode hc hr ht0.tr).symm.trans hd2
        simp only [Prod.mk.injEq] at e2
        obtain ⟨rfl, rfl⟩ := e2
        have s2 := ht2.sng
        repeat' (first | refine CW.seq ?_ | refine CW.block ?_ | refine CW.skip ?_ | refine CW.exit ?_ | refine CW.ret ?_ | refine CW.regionF (by kernel_rfl) ?_ | refine CW.condT ?_ | refine CW.condF ?_ | refine OW.skip (by rfl) (List.cons_ne_nil _ _) (fun _ => ?_) | refine OW.nil ?_ | refine OW.gT ?_ | refine OW.gF ?_ | refine OW.gF0 ?_ | refine OW.w (by constructor; omega; omega) ?_ | refine OW.decT (by omega) ?_ | refine OW.decF (by omega) ?_ | refine OW.dec (fun _ => ?_) (fun _ => ?_) | refine OW.p ?_ | refine OW.p0 ?_ | refine OW.ix (by constructor; omega; omega) ?_ | refine OW.ixA (by constructor; omega; omega) ?_ | refine OW.a (fun _ => ?_) | refine OW.u ?_ | refine thenK_n ?_ | refine thenK_ret ?_ | refine thenK_exit ?_ | refine blockK_n ?_ | refine blockK_ret ?_ | refine blockK_same ?_ | refine blockK_other ?_)
        refine OW.call (num9 _ _) ?_
        rintro _ _ ⟨rfl, rfl⟩
        repeat' (first | refine CW.seq ?_ | refine CW.block ?_ | refine CW.skip ?_ | refine CW.exit ?_ | refine CW.ret ?_ | refine CW.regionF (by kernel_rfl) ?_ | refine CW.condT ?_ | refine CW.condF ?_ | refine OW.skip (by rfl) (List.cons_ne_nil _ _) (fun _ => ?_) | refine OW.nil ?_ | refine OW.gT ?_ | refine OW.gF ?_ | refine OW.gF0 ?_ | refine OW.w (by constructor; omega; omega) ?_ | refine OW.decT (by omega) ?_ | refine OW.decF (by omega) ?_ | refine OW.dec (fun _ => ?_) (fun _ => ?_) | refine OW.p ?_ | refine OW.p0 ?_ | refine OW.ix (by constructor; omega; omega) ?_ | refine OW.ixA (by constructor; omega; omega) ?_ | refine OW.a (fun _ => ?_) | refine OW.u ?_ | refine thenK_n ?_ | refine thenK_ret ?_ | refine thenK_exit ?_ | refine blockK_n ?_ | refine blockK_ret ?_ | refine blockK_same ?_ | refine blockK_other ?_)
        refine OW.call (ssame15 l l _ vt2 _ ?_ ?_) ?_
        · exact ht0.to
        · exact ht2.to
        rintro _ _ ⟨rfl, rfl⟩
        rw [decide_eq_true (same_refl l)]
        repeat' (first | refine CW.seq ?_ | refine CW.block ?_ | refine CW.skip ?_ | refine CW.exit ?_ | refine CW.ret ?_ | refine CW.regionF (by kernel_rfl) ?_ | refine CW.condT ?_ | refine CW.condF ?_ | refine OW.skip (by rfl) (List.cons_ne_nil _ _) (fun _ => ?_) | refine OW.nil ?_ | refine OW.gT ?_ | refine OW.gF ?_ | refine OW.gF0 ?_ | refine OW.w (by constructor; omega; omega) ?_ | refine OW.decT (by omega) ?_ | refine OW.decF (by omega) ?_ | refine OW.dec (fun _ => ?_) (fun _ => ?_) | refine OW.p ?_ | refine OW.p0 ?_ | refine OW.ix (by constructor; omega; omega) ?_ | refine OW.ixA (by constructor; omega; omega) ?_ | refine OW.a (fun _ => ?_) | refine OW.u ?_ | refine thenK_n ?_ | refine thenK_ret ?_ | refine thenK_exit ?_ | refine blockK_n ?_ | refine blockK_ret ?_ | refine blockK_same ?_ | refine blockK_other ?_)
        refine OW.call (sdecode7 _ xs _ hb0.to) ?_
        rintro _ _ ⟨N3, vt3, l3, no3, rfl, rfl, hd3, ht3, hl3⟩
        have s3 := ht3.sng
        repeat' (first | refine CW.seq ?_ | refine CW.block ?_ | refine CW.skip ?_ | refine CW.exit ?_ | refine CW.ret ?_ | refine CW.regionF (by kernel_rfl) ?_ | refine CW.condT ?_ | refine CW.condF ?_ | refine OW.skip (by rfl) (List.cons_ne_nil _ _) (fun _ => ?_) | refine OW.nil ?_ | refine OW.gT ?_ | refine OW.gF ?_ | refine OW.gF0 ?_ | refine OW.w (by constructor; omega; omega) ?_ | refine OW.decT (by omega) ?_ | refine OW.decF (by omega) ?_ | refine OW.dec (fun _ => ?_) (fun _ => ?_) | refine OW.p ?_ | refine OW.p0 ?_ | refine OW.ix (by constructor; omega; omega) ?_ | refine OW.ixA (by constructor; omega; omega) ?_ | refine OW.a (fun _ => ?_) | refine OW.u ?_ | refine thenK_n ?_ | refine thenK_ret ?_ | refine thenK_exit ?_ | refine blockK_n ?_ | refine blockK_ret ?_ | refine blockK_same ?_ | refine blockK_other ?_)
        refine OW.call (num9 _ _) ?_
        rintro _ _ ⟨rfl, rfl⟩
        by_cases hz : no3 = 0
        · subst hz
          obtain ⟨he, hck, _, _⟩ := encode_decode hd3 hb0.byt
          repeat' (first | refine CW.seq ?_ | refine CW.block ?_ | refine CW.skip ?_ | refine CW.exit ?_ | refine CW.ret ?_ | refine CW.regionF (by kernel_rfl) ?_ | refine CW.condT ?_ | refine CW.condF ?_ | refine OW.skip (by rfl) (List.cons_ne_nil _ _) (fun _ => ?_) | refine OW.nil ?_ | refine OW.gT ?_ | refine OW.gF ?_ | refine OW.gF0 ?_ | refine OW.w (by constructor; omega; omega) ?_ | refine OW.decT (by omega) ?_ | refine OW.decF (by omega) ?_ | refine OW.dec (fun _ => ?_) (fun _ => ?_) | refine OW.p ?_ | refine OW.p0 ?_ | refine OW.ix (by constructor; omega; omega) ?_ | refine OW.ixA (by constructor; omega; omega) ?_ | refine OW.a (fun _ => ?_) | refine OW.u ?_ | refine thenK_n ?_ | refine thenK_ret ?_ | refine thenK_exit ?_ | refine blockK_n ?_ | refine blockK_ret ?_ | refine blockK_same ?_ | refine blockK_other ?_)
          refine OW.call (encode11 l3 vt3 _ ht3.to hl3) ?_
          rintro _ _ ⟨N4, u4, rfl, rfl, hcase4⟩
          rcases hcase4 with ⟨_, hrow4⟩ | ⟨h, _⟩
          case inr => exact absurd hck h
          rw [hck]
          rw [he] at hrow4
          have su4 := hrow4.sng
          have hbu4 := Row.bs hrow4 hb0.byt hlenb
          repeat' (first | refine CW.seq ?_ | refine CW.block ?_ | refine CW.skip ?_ | refine CW.exit ?_ | refine CW.ret ?_ | refine CW.regionF (by kernel_rfl) ?_ | refine CW.condT ?_ | refine CW.condF ?_ | refine OW.skip (by rfl) (List.cons_ne_nil _ _) (fun _ => ?_) | refine OW.nil ?_ | refine OW.gT ?_ | refine OW.gF ?_ | refine OW.gF0 ?_ | refine OW.w (by constructor; omega; omega) ?_ | refine OW.decT (by omega) ?_ | refine OW.decF (by omega) ?_ | refine OW.dec (fun _ => ?_) (fun _ => ?_) | refine OW.p ?_ | refine OW.p0 ?_ | refine OW.ix (by constructor; omega; omega) ?_ | refine OW.ixA (by constructor; omega; omega) ?_ | refine OW.a (fun _ => ?_) | refine OW.u ?_ | refine thenK_n ?_ | refine thenK_ret ?_ | refine thenK_exit ?_ | refine blockK_n ?_ | refine blockK_ret ?_ | refine blockK_same ?_ | refine blockK_other ?_)
          refine OW.call (num9 _ _) ?_
          rintro _ _ ⟨rfl, rfl⟩
          repeat' (first | refine CW.seq ?_ | refine CW.block ?_ | refine CW.skip ?_ | refine CW.exit ?_ | refine CW.ret ?_ | refine CW.regionF (by kernel_rfl) ?_ | refine CW.condT ?_ | refine CW.condF ?_ | refine OW.skip (by rfl) (List.cons_ne_nil _ _) (fun _ => ?_) | refine OW.nil ?_ | refine OW.gT ?_ | refine OW.gF ?_ | refine OW.gF0 ?_ | refine OW.w (by constructor; omega; omega) ?_ | refine OW.decT (by omega) ?_ | refine OW.decF (by omega) ?_ | refine OW.dec (fun _ => ?_) (fun _ => ?_) | refine OW.p ?_ | refine OW.p0 ?_ | refine OW.ix (by constructor; omega; omega) ?_ | refine OW.ixA (by constructor; omega; omega) ?_ | refine OW.a (fun _ => ?_) | refine OW.u ?_ | refine thenK_n ?_ | refine thenK_ret ?_ | refine thenK_exit ?_ | refine blockK_n ?_ | refine blockK_ret ?_ | refine blockK_same ?_ | refine blockK_other ?_)
          refine OW.bytesStr hbu4.rd ?_
          repeat' (first | refine CW.seq ?_ | refine CW.block ?_ | refine CW.skip ?_ | refine CW.exit ?_ | refine CW.ret ?_ | refine CW.regionF (by kernel_rfl) ?_ | refine CW.condT ?_ | refine CW.condF ?_ | refine OW.skip (by rfl) (List.cons_ne_nil _ _) (fun _ => ?_) | refine OW.nil ?_ | refine OW.gT ?_ | refine OW.gF ?_ | refine OW.gF0 ?_ | refine OW.w (by constructor; omega; omega) ?_ | refine OW.decT (by omega) ?_ | refine OW.decF (by omega) ?_ | refine OW.dec (fun _ => ?_) (fun _ => ?_) | refine OW.p ?_ | refine OW.p0 ?_ | refine OW.ix (by constructor; omega; omega) ?_ | refine OW.ixA (by constructor; omega; omega) ?_ | refine OW.a (fun _ => ?_) | refine OW.u ?_ | refine thenK_n ?_ | refine thenK_ret ?_ | refine thenK_exit ?_ | refine blockK_n ?_ | refine blockK_ret ?_ | refine blockK_same ?_ | refine blockK_other ?_)
          refine OW.bytesStr hb0.rd ?_
          refine OW.gT ?_
          refine OW.decF ?_ ?_
          · exact fun h => h rfl
          repeat' (first | refine CW.seq ?_ | refine CW.block ?_ | refine CW.skip ?_ | refine CW.exit ?_ | refine CW.ret ?_ | refine CW.regionF (by kernel_rfl) ?_ | refine CW.condT ?_ | refine CW.condF ?_ | refine OW.skip (by rfl) (List.cons_ne_nil _ _) (fun _ => ?_) | refine OW.nil ?_ | refine OW.gT ?_ | refine OW.gF ?_ | refine OW.gF0 ?_ | refine OW.w (by constructor; omega; omega) ?_ | refine OW.decT (by omega) ?_ | refine OW.decF (by omega) ?_ | refine OW.dec (fun _ => ?_) (fun _ => ?_) | refine OW.p ?_ | refine OW.p0 ?_ | refine OW.ix (by constructor; omega; omega) ?_ | refine OW.ixA (by constructor; omega; omega) ?_ | refine OW.a (fun _ => ?_) | refine OW.u ?_ | refine thenK_n ?_ | refine thenK_ret ?_ | refine thenK_exit ?_ | refine blockK_n ?_ | refine blockK_ret ?_ | refine blockK_same ?_ | refine blockK_other ?_)
          refine OW.call (picks16 _ xs _ hb0.to (by omega)) ?_
          rintro _ _ ⟨N5, vt5, ts, rfl, rfl, ht5, hlen5, hgood⟩
          have s5 := ht5.sng
          have hp := check_picked hlen5 hgood
          repeat' (first | refine CW.seq ?_ | refine CW.block ?_ | refine CW.skip ?_ | refine CW.exit ?_ | refine CW.ret ?_ | refine CW.regionF (by kernel_rfl) ?_ | refine CW.condT ?_ | refine CW.condF ?_ | refine OW.skip (by rfl) (List.cons_ne_nil _ _) (fun _ => ?_) | refine OW.nil ?_ | refine OW.gT ?_ | refine OW.gF ?_ | refine OW.gF0 ?_ | refine OW.w (by constructor; omega; omega) ?_ | refine OW.decT (by omega) ?_ | refine OW.decF (by omega) ?_ | refine OW.dec (fun _ => ?_) (fun _ => ?_) | refine OW.p ?_ | refine OW.p0 ?_ | refine OW.ix (by constructor; omega; omega) ?_ | refine OW.ixA (by constructor; omega; omega) ?_ | refine OW.a (fun _ => ?_) | refine OW.u ?_ | refine thenK_n ?_ | refine thenK_ret ?_ | refine thenK_exit ?_ | refine blockK_n ?_ | refine blockK_ret ?_ | refine blockK_same ?_ | refine blockK_other ?_)
          refine OW.call (encode11 ⟨1000, 7, 2, 1000, ts⟩ vt5 _ ht5.to lr_picked) ?_
          rintro _ _ ⟨N6, u6, rfl, rfl, hcase6⟩
          rcases hcase6 with ⟨_, hrow6⟩ | ⟨h, _⟩
          case inr => exact absurd hp h
          rw [hp]
          have su6 := hrow6.sng
          have hbu6 := Row.bs hrow6 (encodeB_byt _ ht5.byt) (by have := (check_eq.1 hp).2; omega)
          repeat' (first | refine CW.seq ?_ | refine CW.block ?_ | refine CW.skip ?_ | refine CW.exit ?_ | refine CW.ret ?_ | refine CW.regionF (by kernel_rfl) ?_ | refine CW.condT ?_ | refine CW.condF ?_ | refine OW.skip (by rfl) (List.cons_ne_nil _ _) (fun _ => ?_) | refine OW.nil ?_ | refine OW.gT ?_ | refine OW.gF ?_ | refine OW.gF0 ?_ | refine OW.w (by constructor; omega; omega) ?_ | refine OW.decT (by omega) ?_ | refine OW.decF (by omega) ?_ | refine OW.dec (fun _ => ?_) (fun _ => ?_) | refine OW.p ?_ | refine OW.p0 ?_ | refine OW.ix (by constructor; omega; omega) ?_ | refine OW.ixA (by constructor; omega; omega) ?_ | refine OW.a (fun _ => ?_) | refine OW.u ?_ | refine thenK_n ?_ | refine thenK_ret ?_ | refine thenK_exit ?_ | refine blockK_n ?_ | refine blockK_ret ?_ | refine blockK_same ?_ | refine blockK_other ?_)
          refine OW.call (sdecode7 u6 _ _ hbu6.to) ?_
          rintro _ _ ⟨N7, vt7, l7, no7, rfl, rfl, hd7, ht7, hl7⟩
          have e7 := (decode_encode hp lr_picked ht5.tr).symm.trans hd7
          simp only [Prod.mk.injEq] at e7
          obtain ⟨rfl, rfl⟩ := e7
          have s7 := ht7.sng
          obtain ⟨ta5, tc5, rfl⟩ := ht5.slice
          repeat' (first | refine CW.seq ?_ | refine CW.block ?_ | refine CW.skip ?_ | refine CW.exit ?_ | refine CW.ret ?_ | refine CW.regionF (by kernel_rfl) ?_ | refine CW.condT ?_ | refine CW.condF ?_ | refine OW.skip (by rfl) (List.cons_ne_nil _ _) (fun _ => ?_) | refine OW.nil ?_ | refine OW.gT ?_ | refine OW.gF ?_ | refine OW.gF0 ?_ | refine OW.w (by constructor; omega; omega) ?_ | refine OW.decT (by omega) ?_ | refine OW.decF (by omega) ?_ | refine OW.dec (fun _ => ?_) (fun _ => ?_) | refine OW.p ?_ | refine OW.p0 ?_ | refine OW.ix (by constructor; omega; omega) ?_ | refine OW.ixA (by constructor; omega; omega) ?_ | refine OW.a (fun _ => ?_) | refine OW.u ?_ | refine thenK_n ?_ | refine thenK_ret ?_ | refine thenK_exit ?_ | refine blockK_n ?_ | refine blockK_ret ?_ | refine blockK_same ?_ | refine blockK_other ?_)
          refine OW.call (num9 _ _) ?_
          rintro _ _ ⟨rfl, rfl⟩
          repeat' (first | refine CW.seq ?_ | refine CW.block ?_ | refine CW.skip ?_ | refine CW.exit ?_ | refine CW.ret ?_ | refine CW.regionF (by kernel_rfl) ?_ | refine CW.condT ?_ | refine CW.condF ?_ | refine OW.skip (by rfl) (List.cons_ne_nil _ _) (fun _ => ?_) | refine OW.nil ?_ | refine OW.gT ?_ | refine OW.gF ?_ | refine OW.gF0 ?_ | refine OW.w (by constructor; omega; omega) ?_ | refine OW.decT (by omega) ?_ | refine OW.decF (by omega) ?_ | refine OW.dec (fun _ => ?_) (fun _ => ?_) | refine OW.p ?_ | refine OW.p0 ?_ | refine OW.ix (by constructor; omega; omega) ?_ | refine OW.ixA (by constructor; omega; omega) ?_ | refine OW.a (fun _ => ?_) | refine OW.u ?_ | refine thenK_n ?_ | refine thenK_ret ?_ | refine thenK_exit ?_ | refine blockK_n ?_ | refine blockK_ret ?_ | refine blockK_same ?_ | refine blockK_other ?_)
          refine OW.call (num9 _ _) ?_
          rintro _ _ ⟨rfl, rfl⟩
          repeat' (first | refine CW.seq ?_ | refine CW.block ?_ | refine CW.skip ?_ | refine CW.exit ?_ | refine CW.ret ?_ | refine CW.regionF (by kernel_rfl) ?_ | refine CW.condT ?_ | refine CW.condF ?_ | refine OW.skip (by rfl) (List.cons_ne_nil _ _) (fun _ => ?_) | refine OW.nil ?_ | refine OW.gT ?_ | refine OW.gF ?_ | refine OW.gF0 ?_ | refine OW.w (by constructor; omega; omega) ?_ | refine OW.decT (by omega) ?_ | refine OW.decF (by omega) ?_ | refine OW.dec (fun _ => ?_) (fun _ => ?_) | refine OW.p ?_ | refine OW.p0 ?_ | refine OW.ix (by constructor; omega; omega) ?_ | refine OW.ixA (by constructor; omega; omega) ?_ | refine OW.a (fun _ => ?_) | refine OW.u ?_ | refine thenK_n ?_ | refine thenK_ret ?_ | refine thenK_exit ?_ | refine blockK_n ?_ | refine blockK_ret ?_ | refine blockK_same ?_ | refine blockK_other ?_)
          refine OW.call (ssame15 ⟨1000, 7, 2, 1000, ts⟩ ⟨1000, 7, 2, 1000, ts⟩ _ vt7 _ ?_ ?_) ?_
          · exact ht5.to
          · exact ht7.to
          rintro _ _ ⟨rfl, rfl⟩
          rw [decide_eq_true (same_refl _)]
          repeat' (first | refine CW.seq ?_ | refine CW.block ?_ | refine CW.skip ?_ | refine CW.exit ?_ | refine CW.ret ?_ | refine CW.regionF (by kernel_rfl) ?_ | refine CW.condT ?_ | refine CW.condF ?_ | refine OW.skip (by rfl) (List.cons_ne_nil _ _) (fun _ => ?_) | refine OW.nil ?_ | refine OW.gT ?_ | refine OW.gF ?_ | refine OW.gF0 ?_ | refine OW.w (by constructor; omega; omega) ?_ | refine OW.decT (by omega) ?_ | refine OW.decF (by omega) ?_ | refine OW.dec (fun _ => ?_) (fun _ => ?_) | refine OW.p ?_ | refine OW.p0 ?_ | refine OW.ix (by constructor; omega; omega) ?_ | refine OW.ixA (by constructor; omega; omega) ?_ | refine OW.a (fun _ => ?_) | refine OW.u ?_ | refine thenK_n ?_ | refine thenK_ret ?_ | refine thenK_exit ?_ | refine blockK_n ?_ | refine blockK_ret ?_ | refine blockK_same ?_ | refine blockK_other ?_)
          refine OW.call (works6 _) ?_
          rintro _ _ ⟨rfl, rfl⟩
          repeat' (first | refine CW.seq ?_ | refine CW.block ?_ | refine CW.skip ?_ | refine CW.exit ?_ | refine CW.ret ?_ | refine CW.regionF (by kernel_rfl) ?_ | refine CW.condT ?_ | refine CW.condF ?_ | refine OW.skip (by rfl) (List.cons_ne_nil _ _) (fun _ => ?_) | refine OW.nil ?_ | refine OW.gT ?_ | refine OW.gF ?_ | refine OW.gF0 ?_ | refine OW.w (by constructor; omega; omega) ?_ | refine OW.decT (by omega) ?_ | refine OW.decF (by omega) ?_ | refine OW.dec (fun _ => ?_) (fun _ => ?_) | refine OW.p ?_ | refine OW.p0 ?_ | refine OW.ix (by constructor; omega; omega) ?_ | refine OW.ixA (by constructor; omega; omega) ?_ | refine OW.a (fun _ => ?_) | refine OW.u ?_ | refine thenK_n ?_ | refine thenK_ret ?_ | refine thenK_exit ?_ | refine blockK_n ?_ | refine blockK_ret ?_ | refine blockK_same ?_ | refine blockK_other ?_)
          exact bodyK.retD L (Res.one Tryz.results5) ⟨rfl, rfl⟩
        · skip
          repeat' (first | refine CW.seq ?_ | refine CW.block ?_ | refine CW.skip ?_ | refine CW.exit ?_ | refine CW.ret ?_ | refine CW.regionF (by kernel_rfl) ?_ | refine CW.condT ?_ | refine CW.condF ?_ | refine OW.skip (by rfl) (List.cons_ne_nil _ _) (fun _ => ?_) | refine OW.nil ?_ | refine OW.gT ?_ | refine OW.gF ?_ | refine OW.gF0 ?_ | refine OW.w (by constructor; omega; omega) ?_ | refine OW.decT (by omega) ?_ | refine OW.decF (by omega) ?_ | refine OW.dec (fun _ => ?_) (fun _ => ?_) | refine OW.p ?_ | refine OW.p0 ?_ | refine OW.ix (by constructor; omega; omega) ?_ | refine OW.ixA (by constructor; omega; omega) ?_ | refine OW.a (fun _ => ?_) | refine OW.u ?_ | refine thenK_n ?_ | refine thenK_ret ?_ | refine thenK_exit ?_ | refine blockK_n ?_ | refine blockK_ret ?_ | refine blockK_same ?_ | refine blockK_other ?_)
          refine OW.call (picks16 _ xs _ hb0.to (by omega)) ?_
          rintro _ _ ⟨N5, vt5, ts, rfl, rfl, ht5, hlen5, hgood⟩
          have s5 := ht5.sng
          have hp := check_picked hlen5 hgood
          repeat' (first | refine CW.seq ?_ | refine CW.block ?_ | refine CW.skip ?_ | refine CW.exit ?_ | refine CW.ret ?_ | refine CW.regionF (by kernel_rfl) ?_ | refine CW.condT ?_ | refine CW.condF ?_ | refine OW.skip (by rfl) (List.cons_ne_nil _ _) (fun _ => ?_) | refine OW.nil ?_ | refine OW.gT ?_ | refine OW.gF ?_ | refine OW.gF0 ?_ | refine OW.w (by constructor; omega; omega) ?_ | refine OW.decT (by omega) ?_ | refine OW.decF (by omega) ?_ | refine OW.dec (fun _ => ?_) (fun _ => ?_) | refine OW.p ?_ | refine OW.p0 ?_ | refine OW.ix (by constructor; omega; omega) ?_ | refine OW.ixA (by constructor; omega; omega) ?_ | refine OW.a (fun _ => ?_) | refine OW.u ?_ | refine thenK_n ?_ | refine thenK_ret ?_ | refine thenK_exit ?_ | refine blockK_n ?_ | refine blockK_ret ?_ | refine blockK_same ?_ | refine blockK_other ?_)
          refine OW.call (encode11 ⟨1000, 7, 2, 1000, ts⟩ vt5 _ ht5.to lr_picked) ?_
          rintro _ _ ⟨N6, u6, rfl, rfl, hcase6⟩
          rcases hcase6 with ⟨_, hrow6⟩ | ⟨h, _⟩
          case inr => exact absurd hp h
          rw [hp]
          have su6 := hrow6.sng
          have hbu6 := Row.bs hrow6 (encodeB_byt _ ht5.byt) (by have := (check_eq.1 hp).2; omega)
          repeat' (first | refine CW.seq ?_ | refine CW.block ?_ | refine CW.skip ?_ | refine CW.exit ?_ | refine CW.ret ?_ | refine CW.regionF (by kernel_rfl) ?_ | refine CW.condT ?_ | refine CW.condF ?_ | refine OW.skip (by rfl) (List.cons_ne_nil _ _) (fun _ => ?_) | refine OW.nil ?_ | refine OW.gT ?_ | refine OW.gF ?_ | refine OW.gF0 ?_ | refine OW.w (by constructor; omega; omega) ?_ | refine OW.decT (by omega) ?_ | refine OW.decF (by omega) ?_ | refine OW.dec (fun _ => ?_) (fun _ => ?_) | refine OW.p ?_ | refine OW.p0 ?_ | refine OW.ix (by constructor; omega; omega) ?_ | refine OW.ixA (by constructor; omega; omega) ?_ | refine OW.a (fun _ => ?_) | refine OW.u ?_ | refine thenK_n ?_ | refine thenK_ret ?_ | refine thenK_exit ?_ | refine blockK_n ?_ | refine blockK_ret ?_ | refine blockK_same ?_ | refine blockK_other ?_)
          refine OW.call (sdecode7 u6 _ _ hbu6.to) ?_
          rintro _ _ ⟨N7, vt7, l7, no7, rfl, rfl, hd7, ht7, hl7⟩
          have e7 := (decode_encode hp lr_picked ht5.tr).symm.trans hd7
          simp only [Prod.mk.injEq] at e7
          obtain ⟨rfl, rfl⟩ := e7
          have s7 := ht7.sng
          obtain ⟨ta5, tc5, rfl⟩ := ht5.slice
          repeat' (first | refine CW.seq ?_ | refine CW.block ?_ | refine CW.skip ?_ | refine CW.exit ?_ | refine CW.ret ?_ | refine CW.regionF (by kernel_rfl) ?_ | refine CW.condT ?_ | refine CW.condF ?_ | refine OW.skip (by rfl) (List.cons_ne_nil _ _) (fun _ => ?_) | refine OW.nil ?_ | refine OW.gT ?_ | refine OW.gF ?_ | refine OW.gF0 ?_ | refine OW.w (by constructor; omega; omega) ?_ | refine OW.decT (by omega) ?_ | refine OW.decF (by omega) ?_ | refine OW.dec (fun _ => ?_) (fun _ => ?_) | refine OW.p ?_ | refine OW.p0 ?_ | refine OW.ix (by constructor; omega; omega) ?_ | refine OW.ixA (by constructor; omega; omega) ?_ | refine OW.a (fun _ => ?_) | refine OW.u ?_ | refine thenK_n ?_ | refine thenK_ret ?_ | refine thenK_exit ?_ | refine blockK_n ?_ | refine blockK_ret ?_ | refine blockK_same ?_ | refine blockK_other ?_)
          refine OW.call (num9 _ _) ?_
          rintro _ _ ⟨rfl, rfl⟩
          repeat' (first | refine CW.seq ?_ | refine CW.block ?_ | refine CW.skip ?_ | refine CW.exit ?_ | refine CW.ret ?_ | refine CW.regionF (by kernel_rfl) ?_ | refine CW.condT ?_ | refine CW.condF ?_ | refine OW.skip (by rfl) (List.cons_ne_nil _ _) (fun _ => ?_) | refine OW.nil ?_ | refine OW.gT ?_ | refine OW.gF ?_ | refine OW.gF0 ?_ | refine OW.w (by constructor; omega; omega) ?_ | refine OW.decT (by omega) ?_ | refine OW.decF (by omega) ?_ | refine OW.dec (fun _ => ?_) (fun _ => ?_) | refine OW.p ?_ | refine OW.p0 ?_ | refine OW.ix (by constructor; omega; omega) ?_ | refine OW.ixA (by constructor; omega; omega) ?_ | refine OW.a (fun _ => ?_) | refine OW.u ?_ | refine thenK_n ?_ | refine thenK_ret ?_ | refine thenK_exit ?_ | refine blockK_n ?_ | refine blockK_ret ?_ | refine blockK_same ?_ | refine blockK_other ?_)
          refine OW.call (num9 _ _) ?_
          rintro _ _ ⟨rfl, rfl⟩
          repeat' (first | refine CW.seq ?_ | refine CW.block ?_ | refine CW.skip ?_ | refine CW.exit ?_ | refine CW.ret ?_ | refine CW.regionF (by kernel_rfl) ?_ | refine CW.condT ?_ | refine CW.condF ?_ | refine OW.skip (by rfl) (List.cons_ne_nil _ _) (fun _ => ?_) | refine OW.nil ?_ | refine OW.gT ?_ | refine OW.gF ?_ | refine OW.gF0 ?_ | refine OW.w (by constructor; omega; omega) ?_ | refine OW.decT (by omega) ?_ | refine OW.decF (by omega) ?_ | refine OW.dec (fun _ => ?_) (fun _ => ?_) | refine OW.p ?_ | refine OW.p0 ?_ | refine OW.ix (by constructor; omega; omega) ?_ | refine OW.ixA (by constructor; omega; omega) ?_ | refine OW.a (fun _ => ?_) | refine OW.u ?_ | refine thenK_n ?_ | refine thenK_ret ?_ | refine thenK_exit ?_ | refine blockK_n ?_ | refine blockK_ret ?_ | refine blockK_same ?_ | refine blockK_other ?_)
          refine OW.call (ssame15 ⟨1000, 7, 2, 1000, ts⟩ ⟨1000, 7, 2, 1000, ts⟩ _ vt7 _ ?_ ?_) ?_
          · exact ht5.to
          · exact ht7.to
          rintro _ _ ⟨rfl, rfl⟩
          rw [decide_eq_true (same_refl _)]
          repeat' (first | refine CW.seq ?_ | refine CW.block ?_ | refine CW.skip ?_ | refine CW.exit ?_ | refine CW.ret ?_ | refine CW.regionF (by kernel_rfl) ?_ | refine CW.condT ?_ | refine CW.condF ?_ | refine OW.skip (by rfl) (List.cons_ne_nil _ _) (fun _ => ?_) | refine OW.nil ?_ | refine OW.gT ?_ | refine OW.gF ?_ | refine OW.gF0 ?_ | refine OW.w (by constructor; omega; omega) ?_ | refine OW.decT (by omega) ?_ | refine OW.decF (by omega) ?_ | refine OW.dec (fun _ => ?_) (fun _ => ?_) | refine OW.p ?_ | refine OW.p0 ?_ | refine OW.ix (by constructor; omega; omega) ?_ | refine OW.ixA (by constructor; omega; omega) ?_ | refine OW.a (fun _ => ?_) | refine OW.u ?_ | refine thenK_n ?_ | refine thenK_ret ?_ | refine thenK_exit ?_ | refine blockK_n ?_ | refine blockK_ret ?_ | refine blockK_same ?_ | refine blockK_other ?_)
          refine OW.call (works6 _) ?_
          rintro _ _ ⟨rfl, rfl⟩
          repeat' (first | refine CW.seq ?_ | refine CW.block ?_ | refine CW.skip ?_ | refine CW.exit ?_ | refine CW.ret ?_ | refine CW.regionF (by kernel_rfl) ?_ | refine CW.condT ?_ | refine CW.condF ?_ | refine OW.skip (by rfl) (List.cons_ne_nil _ _) (fun _ => ?_) | refine OW.nil ?_ | refine OW.gT ?_ | refine OW.gF ?_ | refine OW.gF0 ?_ | refine OW.w (by constructor; omega; omega) ?_ | refine OW.decT (by omega) ?_ | refine OW.decF (by omega) ?_ | refine OW.dec (fun _ => ?_) (fun _ => ?_) | refine OW.p ?_ | refine OW.p0 ?_ | refine OW.ix (by constructor; omega; omega) ?_ | refine OW.ixA (by constructor; omega; omega) ?_ | refine OW.a (fun _ => ?_) | refine OW.u ?_ | refine thenK_n ?_ | refine thenK_ret ?_ | refine thenK_exit ?_ | refine blockK_n ?_ | refine blockK_ret ?_ | refine blockK_same ?_ | refine blockK_other ?_)
          exact bodyK.retD L (Res.one Tryz.results5) ⟨rfl, rfl⟩
      · rcases check_cases l with hc2 | hc2 | hc2
        · exact absurd hc2 hc
        · rw [hc2]
          repeat' (first | refine CW.seq ?_ | refine CW.block ?_ | refine CW.skip ?_ | refine CW.exit ?_ | refine CW.ret ?_ | refine CW.regionF (by kernel_rfl) ?_ | refine CW.condT ?_ | refine CW.condF ?_ | refine OW.skip (by rfl) (List.cons_ne_nil _ _) (fun _ => ?_) | refine OW.nil ?_ | refine OW.gT ?_ | refine OW.gF ?_ | refine OW.gF0 ?_ | refine OW.w (by constructor; omega; omega) ?_ | refine OW.decT (by omega) ?_ | refine OW.decF (by omega) ?_ | refine OW.dec (fun _ => ?_) (fun _ => ?_) | refine OW.p ?_ | refine OW.p0 ?_ | refine OW.ix (by constructor; omega; omega) ?_ | refine OW.ixA (by constructor; omega; omega) ?_ | refine OW.a (fun _ => ?_) | refine OW.u ?_ | refine thenK_n ?_ | refine thenK_ret ?_ | refine thenK_exit ?_ | refine blockK_n ?_ | refine blockK_ret ?_ | refine blockK_same ?_ | refine blockK_other ?_)
          refine OW.call (num9 _ _) ?_
          rintro _ _ ⟨rfl, rfl⟩
          repeat' (first | refine CW.seq ?_ | refine CW.block ?_ | refine CW.skip ?_ | refine CW.exit ?_ | refine CW.ret ?_ | refine CW.regionF (by kernel_rfl) ?_ | refine CW.condT ?_ | refine CW.condF ?_ | refine OW.skip (by rfl) (List.cons_ne_nil _ _) (fun _ => ?_) | refine OW.nil ?_ | refine OW.gT ?_ | refine OW.gF ?_ | refine OW.gF0 ?_ | refine OW.w (by constructor; omega; omega) ?_ | refine OW.decT (by omega) ?_ | refine OW.decF (by omega) ?_ | refine OW.dec (fun _ => ?_) (fun _ => ?_) | refine OW.p ?_ | refine OW.p0 ?_ | refine OW.ix (by constructor; omega; omega) ?_ | refine OW.ixA (by constructor; omega; omega) ?_ | refine OW.a (fun _ => ?_) | refine OW.u ?_ | refine thenK_n ?_ | refine thenK_ret ?_ | refine thenK_exit ?_ | refine blockK_n ?_ | refine blockK_ret ?_ | refine blockK_same ?_ | refine blockK_other ?_)
          refine OW.call (num9 _ _) ?_
          rintro _ _ ⟨rfl, rfl⟩
          repeat' (first | refine CW.seq ?_ | refine CW.block ?_ | refine CW.skip ?_ | refine CW.exit ?_ | refine CW.ret ?_ | refine CW.regionF (by kernel_rfl) ?_ | refine CW.condT ?_ | refine CW.condF ?_ | refine OW.skip (by rfl) (List.cons_ne_nil _ _) (fun _ => ?_) | refine OW.nil ?_ | refine OW.gT ?_ | refine OW.gF ?_ | refine OW.gF0 ?_ | refine OW.w (by constructor; omega; omega) ?_ | refine OW.decT (by omega) ?_ | refine OW.decF (by omega) ?_ | refine OW.dec (fun _ => ?_) (fun _ => ?_) | refine OW.p ?_ | refine OW.p0 ?_ | refine OW.ix (by constructor; omega; omega) ?_ | refine OW.ixA (by constructor; omega; omega) ?_ | refine OW.a (fun _ => ?_) | refine OW.u ?_ | refine thenK_n ?_ | refine thenK_ret ?_ | refine thenK_exit ?_ | refine blockK_n ?_ | refine blockK_ret ?_ | refine blockK_same ?_ | refine blockK_other ?_)
          refine OW.call (sdecode7 _ xs _ hb0.to) ?_
          rintro _ _ ⟨N3, vt3, l3, no3, rfl, rfl, hd3, ht3, hl3⟩
          have s3 := ht3.sng
          repeat' (first | refine CW.seq ?_ | refine CW.block ?_ | refine CW.skip ?_ | refine CW.exit ?_ | refine CW.ret ?_ | refine CW.regionF (by kernel_rfl) ?_ | refine CW.condT ?_ | refine CW.condF ?_ | refine OW.skip (by rfl) (List.cons_ne_nil _ _) (fun _ => ?_) | refine OW.nil ?_ | refine OW.gT ?_ | refine OW.gF ?_ | refine OW.gF0 ?_ | refine OW.w (by constructor; omega; omega) ?_ | refine OW.decT (by omega) ?_ | refine OW.decF (by omega) ?_ | refine OW.dec (fun _ => ?_) (fun _ => ?_) | refine OW.p ?_ | refine OW.p0 ?_ | refine OW.ix (by constructor; omega; omega) ?_ | refine OW.ixA (by constructor; omega; omega) ?_ | refine OW.a (fun _ => ?_) | refine OW.u ?_ | refine thenK_n ?_ | refine thenK_ret ?_ | refine thenK_exit ?_ | refine blockK_n ?_ | refine blockK_ret ?_ | refine blockK_same ?_ | refine blockK_other ?_)
          refine OW.call (num9 _ _) ?_
          rintro _ _ ⟨rfl, rfl⟩
          by_cases hz : no3 = 0
          · subst hz
            obtain ⟨he, hck, _, _⟩ := encode_decode hd3 hb0.byt
            repeat' (first | refine CW.seq ?_ | refine CW.block ?_ | refine CW.skip ?_ | refine CW.exit ?_ | refine CW.ret ?_ | refine CW.regionF (by kernel_rfl) ?_ | refine CW.condT ?_ | refine CW.condF ?_ | refine OW.skip (by rfl) (List.cons_ne_nil _ _) (fun _ => ?_) | refine OW.nil ?_ | refine OW.gT ?_ | refine OW.gF ?_ | refine OW.gF0 ?_ | refine OW.w (by constructor; omega; omega) ?_ | refine OW.decT (by omega) ?_ | refine OW.decF (by omega) ?_ | refine OW.dec (fun _ => ?_) (fun _ => ?_) | refine OW.p ?_ | refine OW.p0 ?_ | refine OW.ix (by constructor; omega; omega) ?_ | refine OW.ixA (by constructor; omega; omega) ?_ | refine OW.a (fun _ => ?_) | refine OW.u ?_ | refine thenK_n ?_ | refine thenK_ret ?_ | refine thenK_exit ?_ | refine blockK_n ?_ | refine blockK_ret ?_ | refine blockK_same ?_ | refine blockK_other ?_)
            refine OW.call (encode11 l3 vt3 _ ht3.to hl3) ?_
            rintro _ _ ⟨N4, u4, rfl, rfl, hcase4⟩
            rcases hcase4 with ⟨_, hrow4⟩ | ⟨h, _⟩
            case inr => exact absurd hck h
            rw [hck]
            rw [he] at hrow4
            have su4 := hrow4.sng
            have hbu4 := Row.bs hrow4 hb0.byt hlenb
            repeat' (first | refine CW.seq ?_ | refine CW.block ?_ | refine CW.skip ?_ | refine CW.exit ?_ | refine CW.ret ?_ | refine CW.regionF (by kernel_rfl) ?_ | refine CW.condT ?_ | refine CW.condF ?_ | refine OW.skip (by rfl) (List.cons_ne_nil _ _) (fun _ => ?_) | refine OW.nil ?_ | refine OW.gT ?_ | refine OW.gF ?_ | refine OW.gF0 ?_ | refine OW.w (by constructor; omega; omega) ?_ | refine OW.decT (by omega) ?_ | refine OW.decF (by omega) ?_ | refine OW.dec (fun _ => ?_) (fun _ => ?_) | refine OW.p ?_ | refine OW.p0 ?_ | refine OW.ix (by constructor; omega; omega) ?_ | refine OW.ixA (by constructor; omega; omega) ?_ | refine OW.a (fun _ => ?_) | refine OW.u ?_ | refine thenK_n ?_ | refine thenK_ret ?_ | refine thenK_exit ?_ | refine blockK_n ?_ | refine blockK_ret ?_ | refine blockK_same ?_ | refine blockK_other ?_)
            refine OW.call (num9 _ _) ?_
            rintro _ _ ⟨rfl, rfl⟩
            repeat' (first | refine CW.seq ?_ | refine CW.block ?_ | refine CW.skip ?_ | refine CW.exit ?_ | refine CW.ret ?_ | refine CW.regionF (by kernel_rfl) ?_ | refine CW.condT ?_ | refine CW.condF ?_ | refine OW.skip (by rfl) (List.cons_ne_nil _ _) (fun _ => ?_) | refine OW.nil ?_ | refine OW.gT ?_ | refine OW.gF ?_ | refine OW.gF0 ?_ | refine OW.w (by constructor; omega; omega) ?_ | refine OW.decT (by omega) ?_ | refine OW.decF (by omega) ?_ | refine OW.dec (fun _ => ?_) (fun _ => ?_) | refine OW.p ?_ | refine OW.p0 ?_ | refine OW.ix (by constructor; omega; omega) ?_ | refine OW.ixA (by constructor; omega; omega) ?_ | refine OW.a (fun _ => ?_) | refine OW.u ?_ | refine thenK_n ?_ | refine thenK_ret ?_ | refine thenK_exit ?_ | refine blockK_n ?_ | refine blockK_ret ?_ | refine blockK_same ?_ | refine blockK_other ?_)
            refine OW.bytesStr hbu4.rd ?_
            repeat' (first | refine CW.seq ?_ | refine CW.block ?_ | refine CW.skip ?_ | refine CW.exit ?_ | refine CW.ret ?_ | refine CW.regionF (by kernel_rfl) ?_ | refine CW.condT ?_ | refine CW.condF ?_ | refine OW.skip (by rfl) (List.cons_ne_nil _ _) (fun _ => ?_) | refine OW.nil ?_ | refine OW.gT ?_ | refine OW.gF ?_ | refine OW.gF0 ?_ | refine OW.w (by constructor; omega; omega) ?_ | refine OW.decT (by omega) ?_ | refine OW.decF (by omega) ?_ | refine OW.dec (fun _ => ?_) (fun _ => ?_) | refine OW.p ?_ | refine OW.p0 ?_ | refine OW.ix (by constructor; omega; omega) ?_ | refine OW.ixA (by constructor; omega; omega) ?_ | refine OW.a (fun _ => ?_) | refine OW.u ?_ | refine thenK_n ?_ | refine thenK_ret ?_ | refine thenK_exit ?_ | refine blockK_n ?_ | refine blockK_ret ?_ | refine blockK_same ?_ | refine blockK_other ?_)
            refine OW.bytesStr hb0.rd ?_
            refine OW.gT ?_
            refine OW.decF ?_ ?_
            · exact fun h => h rfl
            repeat' (first | refine CW.seq ?_ | refine CW.block ?_ | refine CW.skip ?_ | refine CW.exit ?_ | refine CW.ret ?_ | refine CW.regionF (by kernel_rfl) ?_ | refine CW.condT ?_ | refine CW.condF ?_ | refine OW.skip (by rfl) (List.cons_ne_nil _ _) (fun _ => ?_) | refine OW.nil ?_ | refine OW.gT ?_ | refine OW.gF ?_ | refine OW.gF0 ?_ | refine OW.w (by constructor; omega; omega) ?_ | refine OW.decT (by omega) ?_ | refine OW.decF (by omega) ?_ | refine OW.dec (fun _ => ?_) (fun _ => ?_) | refine OW.p ?_ | refine OW.p0 ?_ | refine OW.ix (by constructor; omega; omega) ?_ | refine OW.ixA (by constructor; omega; omega) ?_ | refine OW.a (fun _ => ?_) | refine OW.u ?_ | refine thenK_n ?_ | refine thenK_ret ?_ | refine thenK_exit ?_ | refine blockK_n ?_ | refine blockK_ret ?_ | refine blockK_same ?_ | refine blockK_other ?_)
            refine OW.call (picks16 _ xs _ hb0.to (by omega)) ?_
            rintro _ _ ⟨N5, vt5, ts, rfl, rfl, ht5, hlen5, hgood⟩
            have s5 := ht5.sng
            have hp := check_picked hlen5 hgood
            repeat' (first | refine CW.seq ?_ | refine CW.block ?_ | refine CW.skip ?_ | refine CW.exit ?_ | refine CW.ret ?_ | refine CW.regionF (by kernel_rfl) ?_ | refine CW.condT ?_ | refine CW.condF ?_ | refine OW.skip (by rfl) (List.cons_ne_nil _ _) (fun _ => ?_) | refine OW.nil ?_ | refine OW.gT ?_ | refine OW.gF ?_ | refine OW.gF0 ?_ | refine OW.w (by constructor; omega; omega) ?_ | refine OW.decT (by omega) ?_ | refine OW.decF (by omega) ?_ | refine OW.dec (fun _ => ?_) (fun _ => ?_) | refine OW.p ?_ | refine OW.p0 ?_ | refine OW.ix (by constructor; omega; omega) ?_ | refine OW.ixA (by constructor; omega; omega) ?_ | refine OW.a (fun _ => ?_) | refine OW.u ?_ | refine thenK_n ?_ | refine thenK_ret ?_ | refine thenK_exit ?_ | refine blockK_n ?_ | refine blockK_ret ?_ | refine blockK_same ?_ | refine blockK_other ?_)
            refine OW.call (encode11 ⟨1000, 7, 2, 1000, ts⟩ vt5 _ ht5.to lr_picked) ?_
            rintro _ _ ⟨N6, u6, rfl, rfl, hcase6⟩
            rcases hcase6 with ⟨_, hrow6⟩ | ⟨h, _⟩
            case inr => exact absurd hp h
            rw [hp]
            have su6 := hrow6.sng
            have hbu6 := Row.bs hrow6 (encodeB_byt _ ht5.byt) (by have := (check_eq.1 hp).2; omega)
            repeat' (first | refine CW.seq ?_ | refine CW.block ?_ | refine CW.skip ?_ | refine CW.exit ?_ | refine CW.ret ?_ | refine CW.regionF (by kernel_rfl) ?_ | refine CW.condT ?_ | refine CW.condF ?_ | refine OW.skip (by rfl) (List.cons_ne_nil _ _) (fun _ => ?_) | refine OW.nil ?_ | refine OW.gT ?_ | refine OW.gF ?_ | refine OW.gF0 ?_ | refine OW.w (by constructor; omega; omega) ?_ | refine OW.decT (by omega) ?_ | refine OW.decF (by omega) ?_ | refine OW.dec (fun _ => ?_) (fun _ => ?_) | refine OW.p ?_ | refine OW.p0 ?_ | refine OW.ix (by constructor; omega; omega) ?_ | refine OW.ixA (by constructor; omega; omega) ?_ | refine OW.a (fun _ => ?_) | refine OW.u ?_ | refine thenK_n ?_ | refine thenK_ret ?_ | refine thenK_exit ?_ | refine blockK_n ?_ | refine blockK_ret ?_ | refine blockK_same ?_ | refine blockK_other ?_)
            refine OW.call (sdecode7 u6 _ _ hbu6.to) ?_
            rintro _ _ ⟨N7, vt7, l7, no7, rfl, rfl, hd7, ht7, hl7⟩
            have e7 := (decode_encode hp lr_picked ht5.tr).symm.trans hd7
            simp only [Prod.mk.injEq] at e7
            obtain ⟨rfl, rfl⟩ := e7
            have s7 := ht7.sng
            obtain ⟨ta5, tc5, rfl⟩ := ht5.slice
            repeat' (first | refine CW.seq ?_ | refine CW.block ?_ | refine CW.skip ?_ | refine CW.exit ?_ | refine CW.ret ?_ | refine CW.regionF (by kernel_rfl) ?_ | refine CW.condT ?_ | refine CW.condF ?_ | refine OW.skip (by rfl) (List.cons_ne_nil _ _) (fun _ => ?_) | refine OW.nil ?_ | refine OW.gT ?_ | refine OW.gF ?_ | refine OW.gF0 ?_ | refine OW.w (by constructor; omega; omega) ?_ | refine OW.decT (by omega) ?_ | refine OW.decF (by omega) ?_ | refine OW.dec (fun _ => ?_) (fun _ => ?_) | refine OW.p ?_ | refine OW.p0 ?_ | refine OW.ix (by constructor; omega; omega) ?_ | refine OW.ixA (by constructor; omega; omega) ?_ | refine OW.a (fun _ => ?_) | refine OW.u ?_ | refine thenK_n ?_ | refine thenK_ret ?_ | refine thenK_exit ?_ | refine blockK_n ?_ | refine blockK_ret ?_ | refine blockK_same ?_ | refine blockK_other ?_)
            refine OW.call (num9 _ _) ?_
            rintro _ _ ⟨rfl, rfl⟩
            repeat' (first | refine CW.seq ?_ | refine CW.block ?_ | refine CW.skip ?_ | refine CW.exit ?_ | refine CW.ret ?_ | refine CW.regionF (by kernel_rfl) ?_ | refine CW.condT ?_ | refine CW.condF ?_ | refine OW.skip (by rfl) (List.cons_ne_nil _ _) (fun _ => ?_) | refine OW.nil ?_ | refine OW.gT ?_ | refine OW.gF ?_ | refine OW.gF0 ?_ | refine OW.w (by constructor; omega; omega) ?_ | refine OW.decT (by omega) ?_ | refine OW.decF (by omega) ?_ | refine OW.dec (fun _ => ?_) (fun _ => ?_) | refine OW.p ?_ | refine OW.p0 ?_ | refine OW.ix (by constructor; omega; omega) ?_ | refine OW.ixA (by constructor; omega; omega) ?_ | refine OW.a (fun _ => ?_) | refine OW.u ?_ | refine thenK_n ?_ | refine thenK_ret ?_ | refine thenK_exit ?_ | refine blockK_n ?_ | refine blockK_ret ?_ | refine blockK_same ?_ | refine blockK_other ?_)
            refine OW.call (num9 _ _) ?_
            rintro _ _ ⟨rfl, rfl⟩
            repeat' (first | refine CW.seq ?_ | refine CW.block ?_ | refine CW.skip ?_ | refine CW.exit ?_ | refine CW.ret ?_ | refine CW.regionF (by kernel_rfl) ?_ | refine CW.condT ?_ | refine CW.condF ?_ | refine OW.skip (by rfl) (List.cons_ne_nil _ _) (fun _ => ?_) | refine OW.nil ?_ | refine OW.gT ?_ | refine OW.gF ?_ | refine OW.gF0 ?_ | refine OW.w (by constructor; omega; omega) ?_ | refine OW.decT (by omega) ?_ | refine OW.decF (by omega) ?_ | refine OW.dec (fun _ => ?_) (fun _ => ?_) | refine OW.p ?_ | refine OW.p0 ?_ | refine OW.ix (by constructor; omega; omega) ?_ | refine OW.ixA (by constructor; omega; omega) ?_ | refine OW.a (fun _ => ?_) | refine OW.u ?_ | refine thenK_n ?_ | refine thenK_ret ?_ | refine thenK_exit ?_ | refine blockK_n ?_ | refine blockK_ret ?_ | refine blockK_same ?_ | refine blockK_other ?_)
            refine OW.call (ssame15 ⟨1000, 7, 2, 1000, ts⟩ ⟨1000, 7, 2, 1000, ts⟩ _ vt7 _ ?_ ?_) ?_
            · exact ht5.to
            · exact ht7.to
            rintro _ _ ⟨rfl, rfl⟩
            rw [decide_eq_true (same_refl _)]
            repeat' (first | refine CW.seq ?_ | refine CW.block ?_ | refine CW.skip ?_ | refine CW.exit ?_ | refine CW.ret ?_ | refine CW.regionF (by kernel_rfl) ?_ | refine CW.condT ?_ | refine CW.condF ?_ | refine OW.skip (by rfl) (List.cons_ne_nil _ _) (fun _ => ?_) | refine OW.nil ?_ | refine OW.gT ?_ | refine OW.gF ?_ | refine OW.gF0 ?_ | refine OW.w (by constructor; omega; omega) ?_ | refine OW.decT (by omega) ?_ | refine OW.decF (by omega) ?_ | refine OW.dec (fun _ => ?_) (fun _ => ?_) | refine OW.p ?_ | refine OW.p0 ?_ | refine OW.ix (by constructor; omega; omega) ?_ | refine OW.ixA (by constructor; omega; omega) ?_ | refine OW.a (fun _ => ?_) | refine OW.u ?_ | refine thenK_n ?_ | refine thenK_ret ?_ | refine thenK_exit ?_ | refine blockK_n ?_ | refine blockK_ret ?_ | refine blockK_same ?_ | refine blockK_other ?_)
            refine OW.call (works6 _) ?_
            rintro _ _ ⟨rfl, rfl⟩
            repeat' (first | refine CW.seq ?_ | refine CW.block ?_ | refine CW.skip ?_ | refine CW.exit ?_ | refine CW.ret ?_ | refine CW.regionF (by kernel_rfl) ?_ | refine CW.condT ?_ | refine CW.condF ?_ | refine OW.skip (by rfl) (List.cons_ne_nil _ _) (fun _ => ?_) | refine OW.nil ?_ | refine OW.gT ?_ | refine OW.gF ?_ | refine OW.gF0 ?_ | refine OW.w (by constructor; omega; omega) ?_ | refine OW.decT (by omega) ?_ | refine OW.decF (by omega) ?_ | refine OW.dec (fun _ => ?_) (fun _ => ?_) | refine OW.p ?_ | refine OW.p0 ?_ | refine OW.ix (by constructor; omega; omega) ?_ | refine OW.ixA (by constructor; omega; omega) ?_ | refine OW.a (fun _ => ?_) | refine OW.u ?_ | refine thenK_n ?_ | refine thenK_ret ?_ | refine thenK_exit ?_ | refine blockK_n ?_ | refine blockK_ret ?_ | refine blockK_same ?_ | refine blockK_other ?_)
            exact bodyK.retD L (Res.one Tryz.results5) ⟨rfl, rfl⟩
          · skip
            repeat' (first | refine CW.seq ?_ | refine CW.block ?_ | refine CW.skip ?_ | refine CW.exit ?_ | refine CW.ret ?_ | refine CW.regionF (by kernel_rfl) ?_ | refine CW.condT ?_ | refine CW.condF ?_ | refine OW.skip (by rfl) (List.cons_ne_nil _ _) (fun _ => ?_) | refine OW.nil ?_ | refine OW.gT ?_ | refine OW.gF ?_ | refine OW.gF0 ?_ | refine OW.w (by constructor; omega; omega) ?_ | refine OW.decT (by omega) ?_ | refine OW.decF (by omega) ?_ | refine OW.dec (fun _ => ?_) (fun _ => ?_) | refine OW.p ?_ | refine OW.p0 ?_ | refine OW.ix (by constructor; omega; omega) ?_ | refine OW.ixA (by constructor; omega; omega) ?_ | refine OW.a (fun _ => ?_) | refine OW.u ?_ | refine thenK_n ?_ | refine thenK_ret ?_ | refine thenK_exit ?_ | refine blockK_n ?_ | refine blockK_ret ?_ | refine blockK_same ?_ | refine blockK_other ?_)
            refine OW.call (picks16 _ xs _ hb0.to (by omega)) ?_
            rintro _ _ ⟨N5, vt5, ts, rfl, rfl, ht5, hlen5, hgood⟩
            have s5 := ht5.sng
            have hp := check_picked hlen5 hgood
            repeat' (first | refine CW.seq ?_ | refine CW.block ?_ | refine CW.skip ?_ | refine CW.exit ?_ | refine CW.ret ?_ | refine CW.regionF (by kernel_rfl) ?_ | refine CW.condT ?_ | refine CW.condF ?_ | refine OW.skip (by rfl) (List.cons_ne_nil _ _) (fun _ => ?_) | refine OW.nil ?_ | refine OW.gT ?_ | refine OW.gF ?_ | refine OW.gF0 ?_ | refine OW.w (by constructor; omega; omega) ?_ | refine OW.decT (by omega) ?_ | refine OW.decF (by omega) ?_ | refine OW.dec (fun _ => ?_) (fun _ => ?_) | refine OW.p ?_ | refine OW.p0 ?_ | refine OW.ix (by constructor; omega; omega) ?_ | refine OW.ixA (by constructor; omega; omega) ?_ | refine OW.a (fun _ => ?_) | refine OW.u ?_ | refine thenK_n ?_ | refine thenK_ret ?_ | refine thenK_exit ?_ | refine blockK_n ?_ | refine blockK_ret ?_ | refine blockK_same ?_ | refine blockK_other ?_)
            refine OW.call (encode11 ⟨1000, 7, 2, 1000, ts⟩ vt5 _ ht5.to lr_picked) ?_
            rintro _ _ ⟨N6, u6, rfl, rfl, hcase6⟩
            rcases hcase6 with ⟨_, hrow6⟩ | ⟨h, _⟩
            case inr => exact absurd hp h
            rw [hp]
            have su6 := hrow6.sng
            have hbu6 := Row.bs hrow6 (encodeB_byt _ ht5.byt) (by have := (check_eq.1 hp).2; omega)
            repeat' (first | refine CW.seq ?_ | refine CW.block ?_ | refine CW.skip ?_ | refine CW.exit ?_ | refine CW.ret ?_ | refine CW.regionF (by kernel_rfl) ?_ | refine CW.condT ?_ | refine CW.condF ?_ | refine OW.skip (by rfl) (List.cons_ne_nil _ _) (fun _ => ?_) | refine OW.nil ?_ | refine OW.gT ?_ | refine OW.gF ?_ | refine OW.gF0 ?_ | refine OW.w (by constructor; omega; omega) ?_ | refine OW.decT (by omega) ?_ | refine OW.decF (by omega) ?_ | refine OW.dec (fun _ => ?_) (fun _ => ?_) | refine OW.p ?_ | refine OW.p0 ?_ | refine OW.ix (by constructor; omega; omega) ?_ | refine OW.ixA (by constructor; omega; omega) ?_ | refine OW.a (fun _ => ?_) | refine OW.u ?_ | refine thenK_n ?_ | refine thenK_ret ?_ | refine thenK_exit ?_ | refine blockK_n ?_ | refine blockK_ret ?_ | refine blockK_same ?_ | refine blockK_other ?_)
            refine OW.call (sdecode7 u6 _ _ hbu6.to) ?_
            rintro _ _ ⟨N7, vt7, l7, no7, rfl, rfl, hd7, ht7, hl7⟩
            have e7 := (decode_encode hp lr_picked ht5.tr).symm.trans hd7
            simp only [Prod.mk.injEq] at e7
            obtain ⟨rfl, rfl⟩ := e7
            have s7 := ht7.sng
            obtain ⟨ta5, tc5, rfl⟩ := ht5.slice
            repeat' (first | refine CW.seq ?_ | refine CW.block ?_ | refine CW.skip ?_ | refine CW.exit ?_ | refine CW.ret ?_ | refine CW.regionF (by kernel_rfl) ?_ | refine CW.condT ?_ | refine CW.condF ?_ | refine OW.skip (by rfl) (List.cons_ne_nil _ _) (fun _ => ?_) | refine OW.nil ?_ | refine OW.gT ?_ | refine OW.gF ?_ | refine OW.gF0 ?_ | refine OW.w (by constructor; omega; omega) ?_ | refine OW.decT (by omega) ?_ | refine OW.decF (by omega) ?_ | refine OW.dec (fun _ => ?_) (fun _ => ?_) | refine OW.p ?_ | refine OW.p0 ?_ | refine OW.ix (by constructor; omega; omega) ?_ | refine OW.ixA (by constructor; omega; omega) ?_ | refine OW.a (fun _ => ?_) | refine OW.u ?_ | refine thenK_n ?_ | refine thenK_ret ?_ | refine thenK_exit ?_ | refine blockK_n ?_ | refine blockK_ret ?_ | refine blockK_same ?_ | refine blockK_other ?_)
            refine OW.call (num9 _ _) ?_
            rintro _ _ ⟨rfl, rfl⟩
            repeat' (first | refine CW.seq ?_ | refine CW.block ?_ | refine CW.skip ?_ | refine CW.exit ?_ | refine CW.ret ?_ | refine CW.regionF (by kernel_rfl) ?_ | refine CW.condT ?_ | refine CW.condF ?_ | refine OW.skip (by rfl) (List.cons_ne_nil _ _) (fun _ => ?_) | refine OW.nil ?_ | refine OW.gT ?_ | refine OW.gF ?_ | refine OW.gF0 ?_ | refine OW.w (by constructor; omega; omega) ?_ | refine OW.decT (by omega) ?_ | refine OW.decF (by omega) ?_ | refine OW.dec (fun _ => ?_) (fun _ => ?_) | refine OW.p ?_ | refine OW.p0 ?_ | refine OW.ix (by constructor; omega; omega) ?_ | refine OW.ixA (by constructor; omega; omega) ?_ | refine OW.a (fun _ => ?_) | refine OW.u ?_ | refine thenK_n ?_ | refine thenK_ret ?_ | refine thenK_exit ?_ | refine blockK_n ?_ | refine blockK_ret ?_ | refine blockK_same ?_ | refine blockK_other ?_)
            refine OW.call (num9 _ _) ?_
            rintro _ _ ⟨rfl, rfl⟩
            repeat' (first | refine CW.seq ?_ | refine CW.block ?_ | refine CW.skip ?_ | refine CW.exit ?_ | refine CW.ret ?_ | refine CW.regionF (by kernel_rfl) ?_ | refine CW.condT ?_ | refine CW.condF ?_ | refine OW.skip (by rfl) (List.cons_ne_nil _ _) (fun _ => ?_) | refine OW.nil ?_ | refine OW.gT ?_ | refine OW.gF ?_ | refine OW.gF0 ?_ | refine OW.w (by constructor; omega; omega) ?_ | refine OW.decT (by omega) ?_ | refine OW.decF (by omega) ?_ | refine OW.dec (fun _ => ?_) (fun _ => ?_) | refine OW.p ?_ | refine OW.p0 ?_ | refine OW.ix (by constructor; omega; omega) ?_ | refine OW.ixA (by constructor; omega; omega) ?_ | refine OW.a (fun _ => ?_) | refine OW.u ?_ | refine thenK_n ?_ | refine thenK_ret ?_ | refine thenK_exit ?_ | refine blockK_n ?_ | refine blockK_ret ?_ | refine blockK_same ?_ | refine blockK_other ?_)
            refine OW.call (ssame15 ⟨1000, 7, 2, 1000, ts⟩ ⟨1000, 7, 2, 1000, ts⟩ _ vt7 _ ?_ ?_) ?_
            · exact ht5.to
            · exact ht7.to
            rintro _ _ ⟨rfl, rfl⟩
            rw [decide_eq_true (same_refl _)]
            repeat' (first | refine CW.seq ?_ | refine CW.block ?_ | refine CW.skip ?_ | refine CW.exit ?_ | refine CW.ret ?_ | refine CW.regionF (by kernel_rfl) ?_ | refine CW.condT ?_ | refine CW.condF ?_ | refine OW.skip (by rfl) (List.cons_ne_nil _ _) (fun _ => ?_) | refine OW.nil ?_ | refine OW.gT ?_ | refine OW.gF ?_ | refine OW.gF0 ?_ | refine OW.w (by constructor; omega; omega) ?_ | refine OW.decT (by omega) ?_ | refine OW.decF (by omega) ?_ | refine OW.dec (fun _ => ?_) (fun _ => ?_) | refine OW.p ?_ | refine OW.p0 ?_ | refine OW.ix (by constructor; omega; omega) ?_ | refine OW.ixA (by constructor; omega; omega) ?_ | refine OW.a (fun _ => ?_) | refine OW.u ?_ | refine thenK_n ?_ | refine thenK_ret ?_ | refine thenK_exit ?_ | refine blockK_n ?_ | refine blockK_ret ?_ | refine blockK_same ?_ | refine blockK_other ?_)
            refine OW.call (works6 _) ?_
            rintro _ _ ⟨rfl, rfl⟩
            repeat' (first | refine CW.seq ?_ | refine CW.block ?_ | refine CW.skip ?_ | refine CW.exit ?_ | refine CW.ret ?_ | refine CW.regionF (by kernel_rfl) ?_ | refine CW.condT ?_ | refine CW.condF ?_ | refine OW.skip (by rfl) (List.cons_ne_nil _ _) (fun _ => ?_) | refine OW.nil ?_ | refine OW.gT ?_ | refine OW.gF ?_ | refine OW.gF0 ?_ | refine OW.w (by constructor; omega; omega) ?_ | refine OW.decT (by omega) ?_ | refine OW.decF (by omega) ?_ | refine OW.dec (fun _ => ?_) (fun _ => ?_) | refine OW.p ?_ | refine OW.p0 ?_ | refine OW.ix (by constructor; omega; omega) ?_ | refine OW.ixA (by constructor; omega; omega) ?_ | refine OW.a (fun _ => ?_) | refine OW.u ?_ | refine thenK_n ?_ | refine thenK_ret ?_ | refine thenK_exit ?_ | refine blockK_n ?_ | refine blockK_ret ?_ | refine blockK_same ?_ | refine blockK_other ?_)
            exact bodyK.retD L (Res.one Tryz.results5) ⟨rfl, rfl⟩
        · rw [hc2]
          repeat' (first | refine CW.seq ?_ | refine CW.block ?_ | refine CW.skip ?_ | refine CW.exit ?_ | refine CW.ret ?_ | refine CW.regionF (by kernel_rfl) ?_ | refine CW.condT ?_ | refine CW.condF ?_ | refine OW.skip (by rfl) (List.cons_ne_nil _ _) (fun _ => ?_) | refine OW.nil ?_ | refine OW.gT ?_ | refine OW.gF ?_ | refine OW.gF0 ?_ | refine OW.w (by constructor; omega; omega) ?_ | refine OW.decT (by omega) ?_ | refine OW.decF (by omega) ?_ | refine OW.dec (fun _ => ?_) (fun _ => ?_) | refine OW.p ?_ | refine OW.p0 ?_ | refine OW.ix (by constructor; omega; omega) ?_ | refine OW.ixA (by constructor; omega; omega) ?_ | refine OW.a (fun _ => ?_) | refine OW.u ?_ | refine thenK_n ?_ | refine thenK_ret ?_ | refine thenK_exit ?_ | refine blockK_n ?_ | refine blockK_ret ?_ | refine blockK_same ?_ | refine blockK_other ?_)
          refine OW.call (num9 _ _) ?_
          rintro _ _ ⟨rfl, rfl⟩
          repeat' (first | refine CW.seq ?_ | refine CW.block ?_ | refine CW.skip ?_ | refine CW.exit ?_ | refine CW.ret ?_ | refine CW.regionF (by kernel_rfl) ?_ | refine CW.condT ?_ | refine CW.condF ?_ | refine OW.skip (by rfl) (List.cons_ne_nil _ _) (fun _ => ?_) | refine OW.nil ?_ | refine OW.gT ?_ | refine OW.gF ?_ | refine OW.gF0 ?_ | refine OW.w (by constructor; omega; omega) ?_ | refine OW.decT (by omega) ?_ | refine OW.decF (by omega) ?_ | refine OW.dec (fun _ => ?_) (fun _ => ?_) | refine OW.p ?_ | refine OW.p0 ?_ | refine OW.ix (by constructor; omega; omega) ?_ | refine OW.ixA (by constructor; omega; omega) ?_ | refine OW.a (fun _ => ?_) | refine OW.u ?_ | refine thenK_n ?_ | refine thenK_ret ?_ | refine thenK_exit ?_ | refine blockK_n ?_ | refine blockK_ret ?_ | refine blockK_same ?_ | refine blockK_other ?_)
          refine OW.call (num9 _ _) ?_
          rintro _ _ ⟨rfl, rfl⟩
          repeat' (first | refine CW.seq ?_ | refine CW.block ?_ | refine CW.skip ?_ | refine CW.exit ?_ | refine CW.ret ?_ | refine CW.regionF (by kernel_rfl) ?_ | refine CW.condT ?_ | refine CW.condF ?_ | refine OW.skip (by rfl) (List.cons_ne_nil _ _) (fun _ => ?_) | refine OW.nil ?_ | refine OW.gT ?_ | refine OW.gF ?_ | refine OW.gF0 ?_ | refine OW.w (by constructor; omega; omega) ?_ | refine OW.decT (by omega) ?_ | refine OW.decF (by omega) ?_ | refine OW.dec (fun _ => ?_) (fun _ => ?_) | refine OW.p ?_ | refine OW.p0 ?_ | refine OW.ix (by constructor; omega; omega) ?_ | refine OW.ixA (by constructor; omega; omega) ?_ | refine OW.a (fun _ => ?_) | refine OW.u ?_ | refine thenK_n ?_ | refine thenK_ret ?_ | refine thenK_exit ?_ | refine blockK_n ?_ | refine blockK_ret ?_ | refine blockK_same ?_ | refine blockK_other ?_)
          refine OW.call (num9 _ _) ?_
          rintro _ _ ⟨rfl, rfl⟩
          repeat' (first | refine CW.seq ?_ | refine CW.block ?_ | refine CW.skip ?_ | refine CW.exit ?_ | refine CW.ret ?_ | refine CW.regionF (by kernel_rfl) ?_ | refine CW.condT ?_ | refine CW.condF ?_ | refine OW.skip (by rfl) (List.cons_ne_nil _ _) (fun _ => ?_) | refine OW.nil ?_ | refine OW.gT ?_ | refine OW.gF ?_ | refine OW.gF0 ?_ | refine OW.w (by constructor; omega; omega) ?_ | refine OW.decT (by omega) ?_ | refine OW.decF (by omega) ?_ | refine OW.dec (fun _ => ?_) (fun _ => ?_) | refine OW.p ?_ | refine OW.p0 ?_ | refine OW.ix (by constructor; omega; omega) ?_ | refine OW.ixA (by constructor; omega; omega) ?_ | refine OW.a (fun _ => ?_) | refine OW.u ?_ | refine thenK_n ?_ | refine thenK_ret ?_ | refine thenK_exit ?_ | refine blockK_n ?_ | refine blockK_ret ?_ | refine blockK_same ?_ | refine blockK_other ?_)
          refine OW.call (sdecode7 _ xs _ hb0.to) ?_
          rintro _ _ ⟨N3, vt3, l3, no3, rfl, rfl, hd3, ht3, hl3⟩
          have s3 := ht3.sng
          repeat' (first | refine CW.seq ?_ | refine CW.block ?_ | refine CW.skip ?_ | refine CW.exit ?_ | refine CW.ret ?_ | refine CW.regionF (by kernel_rfl) ?_ | refine CW.condT ?_ | refine CW.condF ?_ | refine OW.skip (by rfl) (List.cons_ne_nil _ _) (fun _ => ?_) | refine OW.nil ?_ | refine OW.gT ?_ | refine OW.gF ?_ | refine OW.gF0 ?_ | refine OW.w (by constructor; omega; omega) ?_ | refine OW.decT (by omega) ?_ | refine OW.decF (by omega) ?_ | refine OW.dec (fun _ => ?_) (fun _ => ?_) | refine OW.p ?_ | refine OW.p0 ?_ | refine OW.ix (by constructor; omega; omega) ?_ | refine OW.ixA (by constructor; omega; omega) ?_ | refine OW.a (fun _ => ?_) | refine OW.u ?_ | refine thenK_n ?_ | refine thenK_ret ?_ | refine thenK_exit ?_ | refine blockK_n ?_ | refine blockK_ret ?_ | refine blockK_same ?_ | refine blockK_other ?_)
          refine OW.call (num9 _ _) ?_
          rintro _ _ ⟨rfl, rfl⟩
          by_cases hz : no3 = 0
          · subst hz
            obtain ⟨he, hck, _, _⟩ := encode_decode hd3 hb0.byt
            repeat' (first | refine CW.seq ?_ | refine CW.block ?_ | refine CW.skip ?_ | refine CW.exit ?_ | refine CW.ret ?_ | refine CW.regionF (by kernel_rfl) ?_ | refine CW.condT ?_ | refine CW.condF ?_ | refine OW.skip (by rfl) (List.cons_ne_nil _ _) (fun _ => ?_) | refine OW.nil ?_ | refine OW.gT ?_ | refine OW.gF ?_ | refine OW.gF0 ?_ | refine OW.w (by constructor; omega; omega) ?_ | refine OW.decT (by omega) ?_ | refine OW.decF (by omega) ?_ | refine OW.dec (fun _ => ?_) (fun _ => ?_) | refine OW.p ?_ | refine OW.p0 ?_ | refine OW.ix (by constructor; omega; omega) ?_ | refine OW.ixA (by constructor; omega; omega) ?_ | refine OW.a (fun _ => ?_) | refine OW.u ?_ | refine thenK_n ?_ | refine thenK_ret ?_ | refine thenK_exit ?_ | refine blockK_n ?_ | refine blockK_ret ?_ | refine blockK_same ?_ | refine blockK_other ?_)
            refine OW.call (encode11 l3 vt3 _ ht3.to hl3) ?_
            rintro _ _ ⟨N4, u4, rfl, rfl, hcase4⟩
            rcases hcase4 with ⟨_, hrow4⟩ | ⟨h, _⟩
            case inr => exact absurd hck h
            rw [hck]
            rw [he] at hrow4
            have su4 := hrow4.sng
            have hbu4 := Row.bs hrow4 hb0.byt hlenb
            repeat' (first | refine CW.seq ?_ | refine CW.block ?_ | refine CW.skip ?_ | refine CW.exit ?_ | refine CW.ret ?_ | refine CW.regionF (by kernel_rfl) ?_ | refine CW.condT ?_ | refine CW.condF ?_ | refine OW.skip (by rfl) (List.cons_ne_nil _ _) (fun _ => ?_) | refine OW.nil ?_ | refine OW.gT ?_ | refine OW.gF ?_ | refine OW.gF0 ?_ | refine OW.w (by constructor; omega; omega) ?_ | refine OW.decT (by omega) ?_ | refine OW.decF (by omega) ?_ | refine OW.dec (fun _ => ?_) (fun _ => ?_) | refine OW.p ?_ | refine OW.p0 ?_ | refine OW.ix (by constructor; omega; omega) ?_ | refine OW.ixA (by constructor; omega; omega) ?_ | refine OW.a (fun _ => ?_) | refine OW.u ?_ | refine thenK_n ?_ | refine thenK_ret ?_ | refine thenK_exit ?_ | refine blockK_n ?_ | refine blockK_ret ?_ | refine blockK_same ?_ | refine blockK_other ?_)
            refine OW.call (num9 _ _) ?_
            rintro _ _ ⟨rfl, rfl⟩
            repeat' (first | refine CW.seq ?_ | refine CW.block ?_ | refine CW.skip ?_ | refine CW.exit ?_ | refine CW.ret ?_ | refine CW.regionF (by kernel_rfl) ?_ | refine CW.condT ?_ | refine CW.condF ?_ | refine OW.skip (by rfl) (List.cons_ne_nil _ _) (fun _ => ?_) | refine OW.nil ?_ | refine OW.gT ?_ | refine OW.gF ?_ | refine OW.gF0 ?_ | refine OW.w (by constructor; omega; omega) ?_ | refine OW.decT (by omega) ?_ | refine OW.decF (by omega) ?_ | refine OW.dec (fun _ => ?_) (fun _ => ?_) | refine OW.p ?_ | refine OW.p0 ?_ | refine OW.ix (by constructor; omega; omega) ?_ | refine OW.ixA (by constructor; omega; omega) ?_ | refine OW.a (fun _ => ?_) | refine OW.u ?_ | refine thenK_n ?_ | refine thenK_ret ?_ | refine thenK_exit ?_ | refine blockK_n ?_ | refine blockK_ret ?_ | refine blockK_same ?_ | refine blockK_other ?_)
            refine OW.bytesStr hbu4.rd ?_
            repeat' (first | refine CW.seq ?_ | refine CW.block ?_ | refine CW.skip ?_ | refine CW.exit ?_ | refine CW.ret ?_ | refine CW.regionF (by kernel_rfl) ?_ | refine CW.condT ?_ | refine CW.condF ?_ | refine OW.skip (by rfl) (List.cons_ne_nil _ _) (fun _ => ?_) | refine OW.nil ?_ | refine OW.gT ?_ | refine OW.gF ?_ | refine OW.gF0 ?_ | refine OW.w (by constructor; omega; omega) ?_ | refine OW.decT (by omega) ?_ | refine OW.decF (by omega) ?_ | refine OW.dec (fun _ => ?_) (fun _ => ?_) | refine OW.p ?_ | refine OW.p0 ?_ | refine OW.ix (by constructor; omega; omega) ?_ | refine OW.ixA (by constructor; omega; omega) ?_ | refine OW.a (fun _ => ?_) | refine OW.u ?_ | refine thenK_n ?_ | refine thenK_ret ?_ | refine thenK_exit ?_ | refine blockK_n ?_ | refine blockK_ret ?_ | refine blockK_same ?_ | refine blockK_other ?_)
            refine OW.bytesStr hb0.rd ?_
            refine OW.gT ?_
            refine OW.decF ?_ ?_
            · exact fun h => h rfl
            repeat' (first | refine CW.seq ?_ | refine CW.block ?_ | refine CW.skip ?_ | refine CW.exit ?_ | refine CW.ret ?_ | refine CW.regionF (by kernel_rfl) ?_ | refine CW.condT ?_ | refine CW.condF ?_ | refine OW.skip (by rfl) (List.cons_ne_nil _ _) (fun _ => ?_) | refine OW.nil ?_ | refine OW.gT ?_ | refine OW.gF ?_ | refine OW.gF0 ?_ | refine OW.w (by constructor; omega; omega) ?_ | refine OW.decT (by omega) ?_ | refine OW.decF (by omega) ?_ | refine OW.dec (fun _ => ?_) (fun _ => ?_) | refine OW.p ?_ | refine OW.p0 ?_ | refine OW.ix (by constructor; omega; omega) ?_ | refine OW.ixA (by constructor; omega; omega) ?_ | refine OW.a (fun _ => ?_) | refine OW.u ?_ | refine thenK_n ?_ | refine thenK_ret ?_ | refine thenK_exit ?_ | refine blockK_n ?_ | refine blockK_ret ?_ | refine blockK_same ?_ | refine blockK_other ?_)
            refine OW.call (picks16 _ xs _ hb0.to (by omega)) ?_
            rintro _ _ ⟨N5, vt5, ts, rfl, rfl, ht5, hlen5, hgood⟩
            have s5 := ht5.sng
            have hp := check_picked hlen5 hgood
            repeat' (first | refine CW.seq ?_ | refine CW.block ?_ | refine CW.skip ?_ | refine CW.exit ?_ | refine CW.ret ?_ | refine CW.regionF (by kernel_rfl) ?_ | refine CW.condT ?_ | refine CW.condF ?_ | refine OW.skip (by rfl) (List.cons_ne_nil _ _) (fun _ => ?_) | refine OW.nil ?_ | refine OW.gT ?_ | refine OW.gF ?_ | refine OW.gF0 ?_ | refine OW.w (by constructor; omega; omega) ?_ | refine OW.decT (by omega) ?_ | refine OW.decF (by omega) ?_ | refine OW.dec (fun _ => ?_) (fun _ => ?_) | refine OW.p ?_ | refine OW.p0 ?_ | refine OW.ix (by constructor; omega; omega) ?_ | refine OW.ixA (by constructor; omega; omega) ?_ | refine OW.a (fun _ => ?_) | refine OW.u ?_ | refine thenK_n ?_ | refine thenK_ret ?_ | refine thenK_exit ?_ | refine blockK_n ?_ | refine blockK_ret ?_ | refine blockK_same ?_ | refine blockK_other ?_)
            refine OW.call (encode11 ⟨1000, 7, 2, 1000, ts⟩ vt5 _ ht5.to lr_picked) ?_
            rintro _ _ ⟨N6, u6, rfl, rfl, hcase6⟩
            rcases hcase6 with ⟨_, hrow6⟩ | ⟨h, _⟩
            case inr => exact absurd hp h
            rw [hp]
            have su6 := hrow6.sng
            have hbu6 := Row.bs hrow6 (encodeB_byt _ ht5.byt) (by have := (check_eq.1 hp).2; omega)
            repeat' (first | refine CW.seq ?_ | refine CW.block ?_ | refine CW.skip ?_ | refine CW.exit ?_ | refine CW.ret ?_ | refine CW.regionF (by kernel_rfl) ?_ | refine CW.condT ?_ | refine CW.condF ?_ | refine OW.skip (by rfl) (List.cons_ne_nil _ _) (fun _ => ?_) | refine OW.nil ?_ | refine OW.gT ?_ | refine OW.gF ?_ | refine OW.gF0 ?_ | refine OW.w (by constructor; omega; omega) ?_ | refine OW.decT (by omega) ?_ | refine OW.decF (by omega) ?_ | refine OW.dec (fun _ => ?_) (fun _ => ?_) | refine OW.p ?_ | refine OW.p0 ?_ | refine OW.ix (by constructor; omega; omega) ?_ | refine OW.ixA (by constructor; omega; omega) ?_ | refine OW.a (fun _ => ?_) | refine OW.u ?_ | refine thenK_n ?_ | refine thenK_ret ?_ | refine thenK_exit ?_ | refine blockK_n ?_ | refine blockK_ret ?_ | refine blockK_same ?_ | refine blockK_other ?_)
            refine OW.call (sdecode7 u6 _ _ hbu6.to) ?_
            rintro _ _ ⟨N7, vt7, l7, no7, rfl, rfl, hd7, ht7, hl7⟩
            have e7 := (decode_encode hp lr_picked ht5.tr).symm.trans hd7
            simp only [Prod.mk.injEq] at e7
            obtain ⟨rfl, rfl⟩ := e7
            have s7 := ht7.sng
            obtain ⟨ta5, tc5, rfl⟩ := ht5.slice
            repeat' (first | refine CW.seq ?_ | refine CW.block ?_ | refine CW.skip ?_ | refine CW.exit ?_ | refine CW.ret ?_ | refine CW.regionF (by kernel_rfl) ?_ | refine CW.condT ?_ | refine CW.condF ?_ | refine OW.skip (by rfl) (List.cons_ne_nil _ _) (fun _ => ?_) | refine OW.nil ?_ | refine OW.gT ?_ | refine OW.gF ?_ | refine OW.gF0 ?_ | refine OW.w (by constructor; omega; omega) ?_ | refine OW.decT (by omega) ?_ | refine OW.decF (by omega) ?_ | refine OW.dec (fun _ => ?_) (fun _ => ?_) | refine OW.p ?_ | refine OW.p0 ?_ | refine OW.ix (by constructor; omega; omega) ?_ | refine OW.ixA (by constructor; omega; omega) ?_ | refine OW.a (fun _ => ?_) | refine OW.u ?_ | refine thenK_n ?_ | refine thenK_ret ?_ | refine thenK_exit ?_ | refine blockK_n ?_ | refine blockK_ret ?_ | refine blockK_same ?_ | refine blockK_other ?_)
            refine OW.call (num9 _ _) ?_
            rintro _ _ ⟨rfl, rfl⟩
            repeat' (first | refine CW.seq ?_ | refine CW.block ?_ | refine CW.skip ?_ | refine CW.exit ?_ | refine CW.ret ?_ | refine CW.regionF (by kernel_rfl) ?_ | refine CW.condT ?_ | refine CW.condF ?_ | refine OW.skip (by rfl) (List.cons_ne_nil _ _) (fun _ => ?_) | refine OW.nil ?_ | refine OW.gT ?_ | refine OW.gF ?_ | refine OW.gF0 ?_ | refine OW.w (by constructor; omega; omega) ?_ | refine OW.decT (by omega) ?_ | refine OW.decF (by omega) ?_ | refine OW.dec (fun _ => ?_) (fun _ => ?_) | refine OW.p ?_ | refine OW.p0 ?_ | refine OW.ix (by constructor; omega; omega) ?_ | refine OW.ixA (by constructor; omega; omega) ?_ | refine OW.a (fun _ => ?_) | refine OW.u ?_ | refine thenK_n ?_ | refine thenK_ret ?_ | refine thenK_exit ?_ | refine blockK_n ?_ | refine blockK_ret ?_ | refine blockK_same ?_ | refine blockK_other ?_)
            refine OW.call (num9 _ _) ?_
            rintro _ _ ⟨rfl, rfl⟩
            repeat' (first | refine CW.seq ?_ | refine CW.block ?_ | refine CW.skip ?_ | refine CW.exit ?_ | refine CW.ret ?_ | refine CW.regionF (by kernel_rfl) ?_ | refine CW.condT ?_ | refine CW.condF ?_ | refine OW.skip (by rfl) (List.cons_ne_nil _ _) (fun _ => ?_) | refine OW.nil ?_ | refine OW.gT ?_ | refine OW.gF ?_ | refine OW.gF0 ?_ | refine OW.w (by constructor; omega; omega) ?_ | refine OW.decT (by omega) ?_ | refine OW.decF (by omega) ?_ | refine OW.dec (fun _ => ?_) (fun _ => ?_) | refine OW.p ?_ | refine OW.p0 ?_ | refine OW.ix (by constructor; omega; omega) ?_ | refine OW.ixA (by constructor; omega; omega) ?_ | refine OW.a (fun _ => ?_) | refine OW.u ?_ | refine thenK_n ?_ | refine thenK_ret ?_ | refine thenK_exit ?_ | refine blockK_n ?_ | refine blockK_ret ?_ | refine blockK_same ?_ | refine blockK_other ?_)
            refine OW.call (ssame15 ⟨1000, 7, 2, 1000, ts⟩ ⟨1000, 7, 2, 1000, ts⟩ _ vt7 _ ?_ ?_) ?_
            · exact ht5.to
            · exact ht7.to
            rintro _ _ ⟨rfl, rfl⟩
            rw [decide_eq_true (same_refl _)]
            repeat' (first | refine CW.seq ?_ | refine CW.block ?_ | refine CW.skip ?_ | refine CW.exit ?_ | refine CW.ret ?_ | refine CW.regionF (by kernel_rfl) ?_ | refine CW.condT ?_ | refine CW.condF ?_ | refine OW.skip (by rfl) (List.cons_ne_nil _ _) (fun _ => ?_) | refine OW.nil ?_ | refine OW.gT ?_ | refine OW.gF ?_ | refine OW.gF0 ?_ | refine OW.w (by constructor; omega; omega) ?_ | refine OW.decT (by omega) ?_ | refine OW.decF (by omega) ?_ | refine OW.dec (fun _ => ?_) (fun _ => ?_) | refine OW.p ?_ | refine OW.p0 ?_ | refine OW.ix (by constructor; omega; omega) ?_ | refine OW.ixA (by constructor; omega; omega) ?_ | refine OW.a (fun _ => ?_) | refine OW.u ?_ | refine thenK_n ?_ | refine thenK_ret ?_ | refine thenK_exit ?_ | refine blockK_n ?_ | refine blockK_ret ?_ | refine blockK_same ?_ | refine blockK_other ?_)
            refine OW.call (works6 _) ?_
            rintro _ _ ⟨rfl, rfl⟩
            repeat' (first | refine CW.seq ?_ | refine CW.block ?_ | refine CW.skip ?_ | refine CW.exit ?_ | refine CW.ret ?_ | refine CW.regionF (by kernel_rfl) ?_ | refine CW.condT ?_ | refine CW.condF ?_ | refine OW.skip (by rfl) (List.cons_ne_nil _ _) (fun _ => ?_) | refine OW.nil ?_ | refine OW.gT ?_ | refine OW.gF ?_ | refine OW.gF0 ?_ | refine OW.w (by constructor; omega; omega) ?_ | refine OW.decT (by omega) ?_ | refine OW.decF (by omega) ?_ | refine OW.dec (fun _ => ?_) (fun _ => ?_) | refine OW.p ?_ | refine OW.p0 ?_ | refine OW.ix (by constructor; omega; omega) ?_ | refine OW.ixA (by constructor; omega; omega) ?_ | refine OW.a (fun _ => ?_) | refine OW.u ?_ | refine thenK_n ?_ | refine thenK_ret ?_ | refine thenK_exit ?_ | refine blockK_n ?_ | refine blockK_ret ?_ | refine blockK_same ?_ | refine blockK_other ?_)
            exact bodyK.retD L (Res.one Tryz.results5) ⟨rfl, rfl⟩
          · skip
            repeat' (first | refine CW.seq ?_ | refine CW.block ?_ | refine CW.skip ?_ | refine CW.exit ?_ | refine CW.ret ?_ | refine CW.regionF (by kernel_rfl) ?_ | refine CW.condT ?_ | refine CW.condF ?_ | refine OW.skip (by rfl) (List.cons_ne_nil _ _) (fun _ => ?_) | refine OW.nil ?_ | refine OW.gT ?_ | refine OW.gF ?_ | refine OW.gF0 ?_ | refine OW.w (by constructor; omega; omega) ?_ | refine OW.decT (by omega) ?_ | refine OW.decF (by omega) ?_ | refine OW.dec (fun _ => ?_) (fun _ => ?_) | refine OW.p ?_ | refine OW.p0 ?_ | refine OW.ix (by constructor; omega; omega) ?_ | refine OW.ixA (by constructor; omega; omega) ?_ | refine OW.a (fun _ => ?_) | refine OW.u ?_ | refine thenK_n ?_ | refine thenK_ret ?_ | refine thenK_exit ?_ | refine blockK_n ?_ | refine blockK_ret ?_ | refine blockK_same ?_ | refine blockK_other ?_)
            refine OW.call (picks16 _ xs _ hb0.to (by omega)) ?_
            rintro _ _ ⟨N5, vt5, ts, rfl, rfl, ht5, hlen5, hgood⟩
            have s5 := ht5.sng
            have hp := check_picked hlen5 hgood
            repeat' (first | refine CW.seq ?_ | refine CW.block ?_ | refine CW.skip ?_ | refine CW.exit ?_ | refine CW.ret ?_ | refine CW.regionF (by kernel_rfl) ?_ | refine CW.condT ?_ | refine CW.condF ?_ | refine OW.skip (by rfl) (List.cons_ne_nil _ _) (fun _ => ?_) | refine OW.nil ?_ | refine OW.gT ?_ | refine OW.gF ?_ | refine OW.gF0 ?_ | refine OW.w (by constructor; omega; omega) ?_ | refine OW.decT (by omega) ?_ | refine OW.decF (by omega) ?_ | refine OW.dec (fun _ => ?_) (fun _ => ?_) | refine OW.p ?_ | refine OW.p0 ?_ | refine OW.ix (by constructor; omega; omega) ?_ | refine OW.ixA (by constructor; omega; omega) ?_ | refine OW.a (fun _ => ?_) | refine OW.u ?_ | refine thenK_n ?_ | refine thenK_ret ?_ | refine thenK_exit ?_ | refine blockK_n ?_ | refine blockK_ret ?_ | refine blockK_same ?_ | refine blockK_other ?_)
            refine OW.call (encode11 ⟨1000, 7, 2, 1000, ts⟩ vt5 _ ht5.to lr_picked) ?_
            rintro _ _ ⟨N6, u6, rfl, rfl, hcase6⟩
            rcases hcase6 with ⟨_, hrow6⟩ | ⟨h, _⟩
            case inr => exact absurd hp h
            rw [hp]
            have su6 := hrow6.sng
            have hbu6 := Row.bs hrow6 (encodeB_byt _ ht5.byt) (by have := (check_eq.1 hp).2; omega)
            repeat' (first | refine CW.seq ?_ | refine CW.block ?_ | refine CW.skip ?_ | refine CW.exit ?_ | refine CW.ret ?_ | refine CW.regionF (by kernel_rfl) ?_ | refine CW.condT ?_ | refine CW.condF ?_ | refine OW.skip (by rfl) (List.cons_ne_nil _ _) (fun _ => ?_) | refine OW.nil ?_ | refine OW.gT ?_ | refine OW.gF ?_ | refine OW.gF0 ?_ | refine OW.w (by constructor; omega; omega) ?_ | refine OW.decT (by omega) ?_ | refine OW.decF (by omega) ?_ | refine OW.dec (fun _ => ?_) (fun _ => ?_) | refine OW.p ?_ | refine OW.p0 ?_ | refine OW.ix (by constructor; omega; omega) ?_ | refine OW.ixA (by constructor; omega; omega) ?_ | refine OW.a (fun _ => ?_) | refine OW.u ?_ | refine thenK_n ?_ | refine thenK_ret ?_ | refine thenK_exit ?_ | refine blockK_n ?_ | refine blockK_ret ?_ | refine blockK_same ?_ | refine blockK_other ?_)
            refine OW.call (sdecode7 u6 _ _ hbu6.to) ?_
            rintro _ _ ⟨N7, vt7, l7, no7, rfl, rfl, hd7, ht7, hl7⟩
            have e7 := (decode_encode hp lr_picked ht5.tr).symm.trans hd7
            simp only [Prod.mk.injEq] at e7
            obtain ⟨rfl, rfl⟩ := e7
            have s7 := ht7.sng
            obtain ⟨ta5, tc5, rfl⟩ := ht5.slice
            repeat' (first | refine CW.seq ?_ | refine CW.block ?_ | refine CW.skip ?_ | refine CW.exit ?_ | refine CW.ret ?_ | refine CW.regionF (by kernel_rfl) ?_ | refine CW.condT ?_ | refine CW.condF ?_ | refine OW.skip (by rfl) (List.cons_ne_nil _ _) (fun _ => ?_) | refine OW.nil ?_ | refine OW.gT ?_ | refine OW.gF ?_ | refine OW.gF0 ?_ | refine OW.w (by constructor; omega; omega) ?_ | refine OW.decT (by omega) ?_ | refine OW.decF (by omega) ?_ | refine OW.dec (fun _ => ?_) (fun _ => ?_) | refine OW.p ?_ | refine OW.p0 ?_ | refine OW.ix (by constructor; omega; omega) ?_ | refine OW.ixA (by constructor; omega; omega) ?_ | refine OW.a (fun _ => ?_) | refine OW.u ?_ | refine thenK_n ?_ | refine thenK_ret ?_ | refine thenK_exit ?_ | refine blockK_n ?_ | refine blockK_ret ?_ | refine blockK_same ?_ | refine blockK_other ?_)
            refine OW.call (num9 _ _) ?_
            rintro _ _ ⟨rfl, rfl⟩
            repeat' (first | refine CW.seq ?_ | refine CW.block ?_ | refine CW.skip ?_ | refine CW.exit ?_ | refine CW.ret ?_ | refine CW.regionF (by kernel_rfl) ?_ | refine CW.condT ?_ | refine CW.condF ?_ | refine OW.skip (by rfl) (List.cons_ne_nil _ _) (fun _ => ?_) | refine OW.nil ?_ | refine OW.gT ?_ | refine OW.gF ?_ | refine OW.gF0 ?_ | refine OW.w (by constructor; omega; omega) ?_ | refine OW.decT (by omega) ?_ | refine OW.decF (by omega) ?_ | refine OW.dec (fun _ => ?_) (fun _ => ?_) | refine OW.p ?_ | refine OW.p0 ?_ | refine OW.ix (by constructor; omega; omega) ?_ | refine OW.ixA (by constructor; omega; omega) ?_ | refine OW.a (fun _ => ?_) | refine OW.u ?_ | refine thenK_n ?_ | refine thenK_ret ?_ | refine thenK_exit ?_ | refine blockK_n ?_ | refine blockK_ret ?_ | refine blockK_same ?_ | refine blockK_other ?_)
            refine OW.call (num9 _ _) ?_
            rintro _ _ ⟨rfl, rfl⟩
            repeat' (first | refine CW.seq ?_ | refine CW.block ?_ | refine CW.skip ?_ | refine CW.exit ?_ | refine CW.ret ?_ | refine CW.regionF (by kernel_rfl) ?_ | refine CW.condT ?_ | refine CW.condF ?_ | refine OW.skip (by rfl) (List.cons_ne_nil _ _) (fun _ => ?_) | refine OW.nil ?_ | refine OW.gT ?_ | refine OW.gF ?_ | refine OW.gF0 ?_ | refine OW.w (by constructor; omega; omega) ?_ | refine OW.decT (by omega) ?_ | refine OW.decF (by omega) ?_ | refine OW.dec (fun _ => ?_) (fun _ => ?_) | refine OW.p ?_ | refine OW.p0 ?_ | refine OW.ix (by constructor; omega; omega) ?_ | refine OW.ixA (by constructor; omega; omega) ?_ | refine OW.a (fun _ => ?_) | refine OW.u ?_ | refine thenK_n ?_ | refine thenK_ret ?_ | refine thenK_exit ?_ | refine blockK_n ?_ | refine blockK_ret ?_ | refine blockK_same ?_ | refine blockK_other ?_)
            refine OW.call (ssame15 ⟨1000, 7, 2, 1000, ts⟩ ⟨1000, 7, 2, 1000, ts⟩ _ vt7 _ ?_ ?_) ?_
            · exact ht5.to
            · exact ht7.to
            rintro _ _ ⟨rfl, rfl⟩
            rw [decide_eq_true (same_refl _)]
            repeat' (first | refine CW.seq ?_ | refine CW.block ?_ | refine CW.skip ?_ | refine CW.exit ?_ | refine CW.ret ?_ | refine CW.regionF (by kernel_rfl) ?_ | refine CW.condT ?_ | refine CW.condF ?_ | refine OW.skip (by rfl) (List.cons_ne_nil _ _) (fun _ => ?_) | refine OW.nil ?_ | refine OW.gT ?_ | refine OW.gF ?_ | refine OW.gF0 ?_ | refine OW.w (by constructor; omega; omega) ?_ | refine OW.decT (by omega) ?_ | refine OW.decF (by omega) ?_ | refine OW.dec (fun _ => ?_) (fun _ => ?_) | refine OW.p ?_ | refine OW.p0 ?_ | refine OW.ix (by constructor; omega; omega) ?_ | refine OW.ixA (by constructor; omega; omega) ?_ | refine OW.a (fun _ => ?_) | refine OW.u ?_ | refine thenK_n ?_ | refine thenK_ret ?_ | refine thenK_exit ?_ | refine blockK_n ?_ | refine blockK_ret ?_ | refine blockK_same ?_ | refine blockK_other ?_)
            refine OW.call (works6 _) ?_
            rintro _ _ ⟨rfl, rfl⟩
            repeat' (first | refine CW.seq ?_ | refine CW.block ?_ | refine CW.skip ?_ | refine CW.exit ?_ | refine CW.ret ?_ | refine CW.regionF (by kernel_rfl) ?_ | refine CW.condT ?_ | refine CW.condF ?_ | refine OW.skip (by rfl) (List.cons_ne_nil _ _) (fun _ => ?_) | refine OW.nil ?_ | refine OW.gT ?_ | refine OW.gF ?_ | refine OW.gF0 ?_ | refine OW.w (by constructor; omega; omega) ?_ | refine OW.decT (by omega) ?_ | refine OW.decF (by omega) ?_ | refine OW.dec (fun _ => ?_) (fun _ => ?_) | refine OW.p ?_ | refine OW.p0 ?_ | refine OW.ix (by constructor; omega; omega) ?_ | refine OW.ixA (by constructor; omega; omega) ?_ | refine OW.a (fun _ => ?_) | refine OW.u ?_ | refine thenK_n ?_ | refine thenK_ret ?_ | refine thenK_exit ?_ | refine blockK_n ?_ | refine blockK_ret ?_ | refine blockK_same ?_ | refine blockK_other ?_)
            exact bodyK.retD L (Res.one Tryz.results5) ⟨rfl, rfl⟩
    · repeat' (first | refine CW.seq ?_ | refine CW.block ?_ | refine CW.skip ?_ | refine CW.exit ?_ | refine CW.ret ?_ | refine CW.regionF (by kernel_rfl) ?_ | refine CW.condT ?_ | refine CW.condF ?_ | refine OW.skip (by rfl) (List.cons_ne_nil _ _) (fun _ => ?_) | refine OW.nil ?_ | refine OW.gT ?_ | refine OW.gF ?_ | refine OW.gF0 ?_ | refine OW.w (by constructor; omega; omega) ?_ | refine OW.decT (by omega) ?_ | refine OW.decF (by omega) ?_ | refine OW.dec (fun _ => ?_) (fun _ => ?_) | refine OW.p ?_ | refine OW.p0 ?_ | refine OW.ix (by constructor; omega; omega) ?_ | refine OW.ixA (by constructor; omega; omega) ?_ | refine OW.a (fun _ => ?_) | refine OW.u ?_ | refine thenK_n ?_ | refine thenK_ret ?_ | refine thenK_exit ?_ | refine blockK_n ?_ | refine blockK_ret ?_ | refine blockK_same ?_ | refine blockK_other ?_)
      refine OW.call (works6 _) ?_
      rintro _ _ ⟨rfl, rfl⟩
      repeat' (first | refine CW.seq ?_ | refine CW.block ?_ | refine CW.skip ?_ | refine CW.exit ?_ | refine CW.ret ?_ | refine CW.regionF (by kernel_rfl) ?_ | refine CW.condT ?_ | refine CW.condF ?_ | refine OW.skip (by rfl) (List.cons_ne_nil _ _) (fun _ => ?_) | refine OW.nil ?_ | refine OW.gT ?_ | refine OW.gF ?_ | refine OW.gF0 ?_ | refine OW.w (by constructor; omega; omega) ?_ | refine OW.decT (by omega) ?_ | refine OW.decF (by omega) ?_ | refine OW.dec (fun _ => ?_) (fun _ => ?_) | refine OW.p ?_ | refine OW.p0 ?_ | refine OW.ix (by constructor; omega; omega) ?_ | refine OW.ixA (by constructor; omega; omega) ?_ | refine OW.a (fun _ => ?_) | refine OW.u ?_ | refine thenK_n ?_ | refine thenK_ret ?_ | refine thenK_exit ?_ | refine blockK_n ?_ | refine blockK_ret ?_ | refine blockK_same ?_ | refine blockK_other ?_)
      exact bodyK.retD L (Res.one Tryz.results5) ⟨rfl, rfl⟩
  · repeat' (first | refine CW.seq ?_ | refine CW.block ?_ | refine CW.skip ?_ | refine CW.exit ?_ | refine CW.ret ?_ | refine CW.regionF (by kernel_rfl) ?_ | refine CW.condT ?_ | refine CW.condF ?_ | refine OW.skip (by rfl) (List.cons_ne_nil _ _) (fun _ => ?_) | refine OW.nil ?_ | refine OW.gT ?_ | refine OW.gF ?_ | refine OW.gF0 ?_ | refine OW.w (by constructor; omega; omega) ?_ | refine OW.decT (by omega) ?_ | refine OW.decF (by omega) ?_ | refine OW.dec (fun _ => ?_) (fun _ => ?_) | refine OW.p ?_ | refine OW.p0 ?_ | refine OW.ix (by constructor; omega; omega) ?_ | refine OW.ixA (by constructor; omega; omega) ?_ | refine OW.a (fun _ => ?_) | refine OW.u ?_ | refine thenK_n ?_ | refine thenK_ret ?_ | refine thenK_exit ?_ | refine blockK_n ?_ | refine blockK_ret ?_ | refine blockK_same ?_ | refine blockK_other ?_)
    refine OW.call (works6 _) ?_
    rintro _ _ ⟨rfl, rfl⟩
    repeat' (first | refine CW.seq ?_ | refine CW.block ?_ | refine CW.skip ?_ | refine CW.exit ?_ | refine CW.ret ?_ | refine CW.regionF (by kernel_rfl) ?_ | refine CW.condT ?_ | refine CW.condF ?_ | refine OW.skip (by rfl) (List.cons_ne_nil _ _) (fun _ => ?_) | refine OW.nil ?_ | refine OW.gT ?_ | refine OW.gF ?_ | refine OW.gF0 ?_ | refine OW.w (by constructor; omega; omega) ?_ | refine OW.decT (by omega) ?_ | refine OW.decF (by omega) ?_ | refine OW.dec (fun _ => ?_) (fun _ => ?_) | refine OW.p ?_ | refine OW.p0 ?_ | refine OW.ix (by constructor; omega; omega) ?_ | refine OW.ixA (by constructor; omega; omega) ?_ | refine OW.a (fun _ => ?_) | refine OW.u ?_ | refine thenK_n ?_ | refine thenK_ret ?_ | refine thenK_exit ?_ | refine blockK_n ?_ | refine blockK_ret ?_ | refine blockK_same ?_ | refine blockK_other ?_)
    exact bodyK.retD L (Res.one Tryz.results5) ⟨rfl, rfl⟩
end Go.Proofs.YtlfdaepkoagnbaaGreat

namespace Go.Proofs.YtlfdaepkoagnbaaGreat
open Go Go.Pw Go.Pw.Sc
open Go.ChangeShapes Go.WideShapes Go.ChangeAt Go.RowKit

set_option maxRecDepth 100000 in
theorem scriptBack_lifted (os : Os) (started : os.Started) (H : Type) (enc : TypeId × Value → H) :
    ReturnsInHanded {} Tryz.checked os 5 .any (Rows.scriptBackSpec.pre6 enc Tryz.prog Tryz.f5 Rows.scriptBackRow.domain false) (Rows.scriptBackSpec.post enc Tryz.prog Tryz.f5 false true false false) := by
  refine returnsInHanded_of_change (C := Tryz.checked) own_none started (by kernel_rfl) Tryz.func5
    (ChangeSpec.witness6 (enc := enc) (C := Tryz.checked) false ⟨#[], #[.agg #[.int .i64 0, .int .u64 0, .int .i64 0, .int .i64 0, .slice none 0 0], .slice none 0 0], []⟩ 8 (by kernel_rfl) (by kernel_rfl) (by kernel_rfl) (by kernel_rfl)) ?_
  intro W base args ds gs before hval0 hW hcnd _
  have hval : ∀ (j : Nat) t v, Tryz.f5.params[j]? = some t → args[j]? = some v → Value.okWide Tryz.prog W .any base t v := hval0
  have hW' := hW
  have hlt := hW.lt
  obtain ⟨p, q, hA0, hV, rfl, hfz, hnd⟩ := hW
  have hA : DataW.TrodAll enc Tryz.prog W 0 (fun _ => true) true Tryz.f5.params.toList args.toList ds p := hA0
  rw [Tryz.params5] at hA hval
  obtain ⟨v0, v1, d0, d1, p0, p1, rfl, rfl, rfl, h0, h1⟩ := trodAll_two hA
  obtain ⟨rfl, rfl⟩ := trodVars_none hV
  have h0' := h0
  have h1' := h1
  obtain ⟨fuel, hf⟩ := h0
  obtain ⟨fuel1, hf1⟩ := h1
  obtain ⟨l, vt, e, ht, hr⟩ := life_of hf
  obtain ⟨a1, len1, cap1, rfl⟩ := okWide_slice und_bs (hval 1 22 v1 rfl rfl)
  obtain ⟨vb, xs, e1, hb1⟩ := byt_of_trod und_bs und_u8 c_u8 hf1
  have e1 : Value.slice a1 len1 cap1 = vb := by simpa [Value.cells] using e1
  subst e1
  obtain ⟨ca, rfl⟩ : ∃ ca, v0 = .agg ca := by
    have h := hval 0 28 v0 rfl rfl
    unfold Value.okWide at h
    rw [Tryz.underlying28] at h
    obtain ⟨ca, h, _⟩ := h
    exact ⟨ca, h⟩
  have e : ca = (lcells l vt).toArray := by
    have e : ca.toList = lcells l vt := e
    rw [← e]
  subst e
  have hwalk := callsIn_wide.1 (scriptBack5 l vt _ xs (whole W) ht hr hb1 W W (st_whole W))
  refine hwalk.mono fun e W' he => ?_
  obtain ⟨rfl, hst⟩ := law_end he
  have hk := whole_kept hst.pn
  refine ⟨_, rfl, [d0, d1], [], (p0 ++ p1) ++ [], [], p0 ++ p1, [], hW', ?_, ?_, rfl, keptBut_of hst.os hst.out hk, fun h => by cases h⟩
  · exact trodAll_mk1 (shut_bool und_bool true)
  · exact trodAll_mk2 (trod_kept laid_out (by kernel_rfl) (of_decide_eq_true (by kernel_rfl)) h0' hk (fun x hx => hlt x (by simp; exact .inl hx))) (trod_kept laid_out (by kernel_rfl) (of_decide_eq_true (by kernel_rfl)) h1' hk (fun x hx => hlt x (by simp; exact .inr hx)))

theorem scriptBack_holds : Rows.ScriptBackSaid :=
  OpenClaim.holds_of_wide 5 Tryz.f5 rfl rfl rfl rfl rfl rfl rfl ⟨rfl, rfl, rfl, rfl, rfl⟩ rfl rfl rfl rfl rfl (by kernel_rfl) Tryz.func5 (by kernel_rfl)
    (of_decide_eq_true (by kernel_rfl)) (by unfold Func.isWrapper; first | (rw [if_pos (by decide +kernel)]; kernel_rfl) | (rw [if_neg (by decide +kernel)]; exact ⟨rfl, rfl⟩))
    (fun os started H enc _ => scriptBack_lifted os started H enc)
#print axioms scriptBack_holds
end Go.Proofs.YtlfdaepkoagnbaaGreat
