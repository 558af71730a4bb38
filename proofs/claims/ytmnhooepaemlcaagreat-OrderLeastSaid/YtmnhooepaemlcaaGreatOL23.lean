/-
  For every input the law OrderLeast returns true, and each argument reads behind the call as it read before. This text holds lemmas for it (part 23).
  Conditions: none.
-/
import Derived.Test.YtmnhooepaemlcaaGreatOL2
import Derived.Test.YtmnhooepaemlcaaGreatOL3
import Derived.Test.YtmnhooepaemlcaaGreatOL22
set_option linter.all false
namespace Go.Proofs.YtmnhooepaemlcaaGreat
open Go Go.Pw Go.Pw.Sc Go.Pw.Md Go.Pw.Or
open Go.ChangeShapes Go.WideShapes Go.ChangeAt Go.RowKit
set_option maxRecDepth 100000
set_option maxHeartbeats 4000000
theorem und_tolds : Tryz.prog.underlying 84 = some (.slice 103) := Und.out
theorem und_ints : Tryz.prog.underlying 35 = some (.slice 3) := Und.out
theorem c_told : Tryz.prog.cellsOf 103 = 13 := by kernel_rfl
theorem list13 {l : List Value} (h : l.length = 13) : ∃ a b c d e f g i j k m n o, l = [a, b, c, d, e, f, g, i, j, k, m, n, o] := by
 match l, h with
 | [a, b, c, d, e, f, g, i, j, k, m, n, o], _ => exact ⟨a, b, c, d, e, f, g, i, j, k, m, n, o, rfl⟩
section
variable {H : Type} {enc : TypeId × Value → H} {W : World} {base : Nat} {sp : Nat → Bool} {held : Bool} {fuel : Nat} {cs : List Value} {x : DataW H × List MemPlace}
theorem told_of (h : DataW.trod enc Tryz.prog W base sp held fuel 103 cs = some x) : ∃ u, TdAt (whole W) cs u ∧ cs.length = 13 := by
 obtain ⟨hl, n, hf⟩ := field_of Tryz.underlying103 h
 rw [c_told] at hl
 obtain ⟨c0, c1, c2, c3, c4, c5, c6, c7, c8, c9, c10, c11, c12, rfl⟩ := list13 hl
 obtain ⟨y0, f0⟩ := hf 0 _ rfl
 have f0 := i64_of und_int f0
 change ∃ n, List.take (Tryz.prog.cellsOf 3) _ = _ ∧ _ at f0
 rw [c_int] at f0
 obtain ⟨th, e0, r0⟩ := f0
 simp at e0
 subst e0
 obtain ⟨y1, f1⟩ := hf 1 _ rfl
 obtain ⟨k', a', s', m', n', vb, xs, e5, r1, r2, r3, r4, r5, hb⟩ := op_of f1
 change List.take (Tryz.prog.cellsOf 50) _ = _ at e5
 rw [c_op] at e5
 simp at e5
 obtain ⟨rfl, rfl, rfl, rfl, rfl, rfl⟩ := e5
 obtain ⟨y2, f2⟩ := hf 2 _ rfl
 obtain ⟨e, a, q, vo, ys, e6, q1, q2, q3, ho⟩ := out_of f2
 change List.take (Tryz.prog.cellsOf 56) _ = _ at e6
 rw [c_out] at e6
 simp at e6
 obtain ⟨rfl, rfl, rfl, rfl⟩ := e6
 obtain ⟨y3, f3⟩ := hf 3 _ rfl
 have f3 := i64_of und_int f3
 change ∃ n, List.take (Tryz.prog.cellsOf 3) _ = _ ∧ _ at f3
 rw [c_int] at f3
 obtain ⟨fr, e3, r6⟩ := f3
 simp at e3
 subst e3
 obtain ⟨y4, f4⟩ := hf 4 _ rfl
 have f4 := i64_of und_int f4
 change ∃ n, List.take (Tryz.prog.cellsOf 3) _ = _ ∧ _ at f4
 rw [c_int] at f4
 obtain ⟨to, e4, r7⟩ := f4
 simp at e4
 subst e4
 exact ⟨⟨th, ⟨k', a', s', m', n', xs⟩, ⟨e, a, q, ys⟩, fr, to⟩, ⟨_, _, rfl, hb, ho, ⟨r0, ⟨r1, r2, r3, r4, r5⟩, ⟨q1, q2, q3⟩, r6, r7⟩⟩, rfl⟩
theorem lat_ints : ∀ {xs : List Value} {zs : List Int}, LAt 1 (fun c (z : Int) => c = [.int .i64 z]) xs zs → xs = zs.map (Value.int .i64)
 | xs, [], h => by have : xs = [] := h; rw [this]; rfl
 | _, z :: zs, ⟨c, r, e, _, h1, h2⟩ => by rw [e, h1, lat_ints h2]; rfl
theorem ints_of (h : DataW.trod enc Tryz.prog W base sp held fuel 35 cs = some x) : ∃ (v : Value) (zs : List Int), cs = [v] ∧ Rd (whole W) 1 v zs.length (zs.map (Value.int .i64)) ∧ ((zs.length : Nat) : Int) ≤ 9223372036854775807 := by
 obtain ⟨v, zs, e, ⟨⟨xs, hr, hl⟩, hn⟩, _⟩ := ls_of_trod (s := 1) (R := fun _ c (z : Int) => c = [.int .i64 z]) (by decide) und_ints c_int (fun _ _ _ h => by
  obtain ⟨n, e, _⟩ := i64_of und_int h
  exact ⟨n, e, by rw [e]; rfl⟩) h
 exact ⟨v, zs, e, by rw [← lat_ints hl]; exact hr, hn⟩
end
end Go.Proofs.YtmnhooepaemlcaaGreat
