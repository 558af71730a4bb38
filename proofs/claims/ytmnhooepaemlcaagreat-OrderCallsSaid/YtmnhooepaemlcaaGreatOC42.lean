/- OrderCalls: true for every input; arguments as before. Part 42. Conditions: none. -/
import Derived.Test.YtmnhooepaemlcaaGreatOC2
import Derived.Test.YtmnhooepaemlcaaGreatOC3
import Derived.Test.YtmnhooepaemlcaaGreatRows
set_option linter.all false
namespace Go.Proofs.YtmnhooepaemlcaaGreat
open Go Go.Pw Go.Pw.Sc Go.Pw.Md
open Go.ChangeShapes Go.WideShapes Go.ChangeAt Go.RowKit
set_option maxRecDepth 100000
set_option maxHeartbeats 4000000
theorem own_none : ownKnob Tryz.prog.godebug = none := by kernel_rfl
theorem laid_out : laidOutB Tryz.prog = true := by kernel_rfl
theorem und_int : Tryz.prog.underlying 3 = some (.int .i64) := Und.out
theorem und_u64 : Tryz.prog.underlying 47 = some (.int .u64) := Und.out
theorem und_u32 : Tryz.prog.underlying 46 = some (.int .u32) := Und.out
theorem und_u8 : Tryz.prog.underlying 5 = some (.int .u8) := Und.out
theorem und_bs : Tryz.prog.underlying 48 = some (.slice 5) := Und.out
theorem und_ok : Tryz.prog.underlying 45 = some (.int .i64) := Und.out
theorem und_en : Tryz.prog.underlying 28 = some (.int .i64) := Und.out
theorem und_bool : Tryz.prog.underlying 4 = some .bool := Und.out
theorem c_int : Tryz.prog.cellsOf 3 = 1 := by kernel_rfl
theorem c_u64 : Tryz.prog.cellsOf 47 = 1 := by kernel_rfl
theorem c_u32 : Tryz.prog.cellsOf 46 = 1 := by kernel_rfl
theorem c_u8 : Tryz.prog.cellsOf 5 = 1 := by kernel_rfl
theorem c_bs : Tryz.prog.cellsOf 48 = 1 := by kernel_rfl
theorem c_ok : Tryz.prog.cellsOf 45 = 1 := by kernel_rfl
theorem c_en : Tryz.prog.cellsOf 28 = 1 := by kernel_rfl
theorem c_bool : Tryz.prog.cellsOf 4 = 1 := by kernel_rfl
theorem c_op : Tryz.prog.cellsOf 50 = 6 := by kernel_rfl
theorem c_out : Tryz.prog.cellsOf 56 = 4 := by kernel_rfl
theorem list2 {l : List Value} (h : l.length = 2) : ∃ a b, l = [a, b] := by
 match l, h with
 | [a, b], _ => exact ⟨a, b, rfl⟩
theorem list4 {l : List Value} (h : l.length = 4) : ∃ a b c d, l = [a, b, c, d] := by
 match l, h with
 | [a, b, c, d], _ => exact ⟨a, b, c, d, rfl⟩
theorem list6 {l : List Value} (h : l.length = 6) : ∃ a b c d e f, l = [a, b, c, d, e, f] := by
 match l, h with
 | [a, b, c, d, e, f], _ => exact ⟨a, b, c, d, e, f, rfl⟩
theorem list11 {l : List Value} (h : l.length = 11) : ∃ a b c d e f g i j k m, l = [a, b, c, d, e, f, g, i, j, k, m] := by
 match l, h with
 | [a, b, c, d, e, f, g, i, j, k, m], _ => exact ⟨a, b, c, d, e, f, g, i, j, k, m, rfl⟩
section
variable {H : Type} {enc : TypeId × Value → H} {W : World} {base : Nat} {sp : Nat → Bool} {held : Bool} {fuel : Nat} {cs : List Value} {x : DataW H × List MemPlace}
theorem op_of (h : DataW.trod enc Tryz.prog W base sp held fuel 50 cs = some x) : ∃ k a s m n vb xs, cs = [.int .i64 k, .int .u32 a, .int .u64 s, .int .u64 m, .int .u64 n, vb] ∧ inR .i64 k ∧ inR .u32 a ∧ inR .u64 s ∧ inR .u64 m ∧ inR .u64 n ∧ BS (whole W) vb xs := by
 obtain ⟨hl, n, hf⟩ := field_of Tryz.underlying50 h
 rw [c_op] at hl
 obtain ⟨c0, c1, c2, c3, c4, c5, rfl⟩ := list6 hl
 obtain ⟨y0, f0⟩ := hf 0 _ rfl
 have f0 := i64_of und_ok f0
 change ∃ n, List.take (Tryz.prog.cellsOf 45) _ = _ ∧ _ at f0
 rw [c_ok] at f0
 obtain ⟨k, e0, rk⟩ := f0
 simp at e0
 subst e0
 obtain ⟨y1, f1⟩ := hf 1 _ rfl
 have f1 := u32_of und_u32 f1
 change ∃ n, List.take (Tryz.prog.cellsOf 46) _ = _ ∧ _ at f1
 rw [c_u32] at f1
 obtain ⟨a, e1, ra⟩ := f1
 simp at e1
 subst e1
 obtain ⟨y2, f2⟩ := hf 2 _ rfl
 have f2 := u64_of und_u64 f2
 change ∃ n, List.take (Tryz.prog.cellsOf 47) _ = _ ∧ _ at f2
 rw [c_u64] at f2
 obtain ⟨s, e2, rs⟩ := f2
 simp at e2
 subst e2
 obtain ⟨y3, f3⟩ := hf 3 _ rfl
 have f3 := u64_of und_u64 f3
 change ∃ n, List.take (Tryz.prog.cellsOf 47) _ = _ ∧ _ at f3
 rw [c_u64] at f3
 obtain ⟨m, e3, rm⟩ := f3
 simp at e3
 subst e3
 obtain ⟨y4, f4⟩ := hf 4 _ rfl
 have f4 := u64_of und_u64 f4
 change ∃ n, List.take (Tryz.prog.cellsOf 47) _ = _ ∧ _ at f4
 rw [c_u64] at f4
 obtain ⟨q, e4, rq⟩ := f4
 simp at e4
 subst e4
 obtain ⟨y5, f5⟩ := hf 5 _ rfl
 obtain ⟨vb, xs, e5, hb⟩ := byt_of_trod und_bs und_u8 c_u8 f5
 change List.take (Tryz.prog.cellsOf 48) _ = _ at e5
 rw [c_bs] at e5
 simp at e5
 subst e5
 exact ⟨k, a, s, m, q, c5, xs, rfl, rk, ra, rs, rm, rq, hb⟩
theorem out_of (h : DataW.trod enc Tryz.prog W base sp held fuel 56 cs = some x) : ∃ e a n vb xs, cs = [.int .i64 e, .int .u32 a, .int .i64 n, vb] ∧ inR .i64 e ∧ inR .u32 a ∧ inR .i64 n ∧ BS (whole W) vb xs := by
 obtain ⟨hl, n, hf⟩ := field_of Tryz.underlying56 h
 rw [c_out] at hl
 obtain ⟨c0, c1, c2, c3, rfl⟩ := list4 hl
 obtain ⟨y0, f0⟩ := hf 0 _ rfl
 have f0 := i64_of und_en f0
 change ∃ n, List.take (Tryz.prog.cellsOf 28) _ = _ ∧ _ at f0
 rw [c_en] at f0
 obtain ⟨k, e0, rk⟩ := f0
 simp at e0
 subst e0
 obtain ⟨y1, f1⟩ := hf 1 _ rfl
 have f1 := u32_of und_u32 f1
 change ∃ n, List.take (Tryz.prog.cellsOf 46) _ = _ ∧ _ at f1
 rw [c_u32] at f1
 obtain ⟨a, e1, ra⟩ := f1
 simp at e1
 subst e1
 obtain ⟨y2, f2⟩ := hf 2 _ rfl
 have f2 := i64_of und_int f2
 change ∃ n, List.take (Tryz.prog.cellsOf 3) _ = _ ∧ _ at f2
 rw [c_int] at f2
 obtain ⟨s, e2, rs⟩ := f2
 simp at e2
 subst e2
 obtain ⟨y3, f3⟩ := hf 3 _ rfl
 obtain ⟨vb, xs, e3, hb⟩ := byt_of_trod und_bs und_u8 c_u8 f3
 change List.take (Tryz.prog.cellsOf 48) _ = _ at e3
 rw [c_bs] at e3
 simp at e3
 subst e3
 exact ⟨k, a, s, c3, xs, rfl, rk, ra, rs, hb⟩
end
end Go.Proofs.YtmnhooepaemlcaaGreat
