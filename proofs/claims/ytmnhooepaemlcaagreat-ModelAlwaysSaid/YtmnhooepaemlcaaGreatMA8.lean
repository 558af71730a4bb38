/-
  For every input the law ModelAlways returns true, and each argument reads behind the call as it read before. This text holds lemmas for it (part 8).
  Conditions: none.
-/
import Derived.Test.YtmnhooepaemlcaaGreatMA7
set_option linter.all false
namespace Go.Proofs.YtmnhooepaemlcaaGreat
open Go Go.Pw Go.Sort
set_option maxRecDepth 100000
set_option maxHeartbeats 4000000
set_option synthInstance.maxHeartbeats 400000
set_option synthInstance.maxSize 2000
attribute [local irreducible] CW OW RW thenK blockK
attribute [local irreducible] scopeK loopK TRW ATW

theorem sh32 {x : Int} : shrV .u64 x 32 = x / 4294967296 := by simpa using shrK (x := x) 32 (by decide)
theorem sh16 {x : Int} : shrV .u64 x 16 = x / 65536 := by simpa using shrK (x := x) 16 (by decide)
theorem sh8 {x : Int} : shrV .u64 x 8 = x / 256 := by simpa using shrK (x := x) 8 (by decide)
theorem len64 (N : Nat) (h : N < 18446744073709551616) (L : Chunk) : Fn1 Tryz.prog 196 [.int .u64 (N : Int)] L (fun u L' => u = .int .i64 (bitsLen N : Nat) ∧ L = L') := by
  intro w0; refine Spec.enter1 Tryz.func196 rfl Tryz.ntmps196 (by decide) ?_
  by_cases c1 : 4294967296 ≤ N
  · have b1 : bitsLen N = 32 + bitsLen (N / 4294967296) := bl_shift (k := 32) c1
    obtain ⟨N1, hN1⟩ : ∃ r, N / 4294967296 = r := ⟨_, rfl⟩
    rw [hN1] at b1
    have hc : (N : Int) / 4294967296 = (N1 : Int) := by omega
    have z1 : ShN (N : Int) 32 (N1 : Int) := ⟨by rw [sh32, hc]⟩
    by_cases c2 : 65536 ≤ N1
    · have b2 : bitsLen N1 = 16 + bitsLen (N1 / 65536) := bl_shift (k := 16) c2
      obtain ⟨N2, hN2⟩ : ∃ r, N1 / 65536 = r := ⟨_, rfl⟩
      rw [hN2] at b2
      have hc2 : (N1 : Int) / 65536 = (N2 : Int) := by omega
      have z2 : ShN (N1 : Int) 16 (N2 : Int) := ⟨by rw [sh16, hc2]⟩
      by_cases c3 : 256 ≤ N2
      · have b3 : bitsLen N2 = 8 + bitsLen (N2 / 256) := bl_shift (k := 8) c3
        obtain ⟨N3, hN3⟩ : ∃ r, N2 / 256 = r := ⟨_, rfl⟩
        rw [hN3] at b3
        have hc3 : (N2 : Int) / 256 = (N3 : Int) := by omega
        have z3 : ShN (N2 : Int) 8 (N3 : Int) := ⟨by rw [sh8, hc3]⟩
        repeat' (first|refine Ga0 fun _=>?_|refine Ga1 ?_|refine Ga2 (fun _=>?_) fun _=>?_|refine Ga3 ?_|refine Ga4 fun _=>?_|fail)
        refine OW.ixLen (by decide +kernel) (by omega) (fun r hr hr8 => ?_)
        have hr' : r = bitsLen N3 := hr
        repeat' (first|refine Ga0 fun _=>?_|refine Ga1 ?_|refine Ga2 (fun _=>?_) fun _=>?_|refine Ga3 ?_|refine Ga4 fun _=>?_|fail)
        exact bodyK.retD L (Res.one Tryz.results196) ⟨by congr 1; omega, rfl⟩
      · repeat' (first|refine Ga0 fun _=>?_|refine Ga1 ?_|refine Ga2 (fun _=>?_) fun _=>?_|refine Ga3 ?_|refine Ga4 fun _=>?_|fail)
        refine OW.ixLen (by decide +kernel) (by omega) (fun r hr hr8 => ?_)
        have hr' : r = bitsLen N2 := hr
        repeat' (first|refine Ga0 fun _=>?_|refine Ga1 ?_|refine Ga2 (fun _=>?_) fun _=>?_|refine Ga3 ?_|refine Ga4 fun _=>?_|fail)
        exact bodyK.retD L (Res.one Tryz.results196) ⟨by congr 1; omega, rfl⟩
    · have b2 : bitsLen N1 = 0 + bitsLen N1 := by omega
      generalize hq2 : N1 = N2 at *
      by_cases c3 : 256 ≤ N2
      · have b3 : bitsLen N2 = 8 + bitsLen (N2 / 256) := bl_shift (k := 8) c3
        obtain ⟨N3, hN3⟩ : ∃ r, N2 / 256 = r := ⟨_, rfl⟩
        rw [hN3] at b3
        have hc3 : (N2 : Int) / 256 = (N3 : Int) := by omega
        have z3 : ShN (N2 : Int) 8 (N3 : Int) := ⟨by rw [sh8, hc3]⟩
        repeat' (first|refine Ga0 fun _=>?_|refine Ga1 ?_|refine Ga2 (fun _=>?_) fun _=>?_|refine Ga3 ?_|refine Ga4 fun _=>?_|fail)
        refine OW.ixLen (by decide +kernel) (by omega) (fun r hr hr8 => ?_)
        have hr' : r = bitsLen N3 := hr
        repeat' (first|refine Ga0 fun _=>?_|refine Ga1 ?_|refine Ga2 (fun _=>?_) fun _=>?_|refine Ga3 ?_|refine Ga4 fun _=>?_|fail)
        exact bodyK.retD L (Res.one Tryz.results196) ⟨by congr 1; omega, rfl⟩
      · repeat' (first|refine Ga0 fun _=>?_|refine Ga1 ?_|refine Ga2 (fun _=>?_) fun _=>?_|refine Ga3 ?_|refine Ga4 fun _=>?_|fail)
        refine OW.ixLen (by decide +kernel) (by omega) (fun r hr hr8 => ?_)
        have hr' : r = bitsLen N2 := hr
        repeat' (first|refine Ga0 fun _=>?_|refine Ga1 ?_|refine Ga2 (fun _=>?_) fun _=>?_|refine Ga3 ?_|refine Ga4 fun _=>?_|fail)
        exact bodyK.retD L (Res.one Tryz.results196) ⟨by congr 1; omega, rfl⟩
  · have b1 : bitsLen N = 0 + bitsLen N := by omega
    generalize hq : N = N1 at *
    by_cases c2 : 65536 ≤ N1
    · have b2 : bitsLen N1 = 16 + bitsLen (N1 / 65536) := bl_shift (k := 16) c2
      obtain ⟨N2, hN2⟩ : ∃ r, N1 / 65536 = r := ⟨_, rfl⟩
      rw [hN2] at b2
      have hc2 : (N1 : Int) / 65536 = (N2 : Int) := by omega
      have z2 : ShN (N1 : Int) 16 (N2 : Int) := ⟨by rw [sh16, hc2]⟩
      by_cases c3 : 256 ≤ N2
      · have b3 : bitsLen N2 = 8 + bitsLen (N2 / 256) := bl_shift (k := 8) c3
        obtain ⟨N3, hN3⟩ : ∃ r, N2 / 256 = r := ⟨_, rfl⟩
        rw [hN3] at b3
        have hc3 : (N2 : Int) / 256 = (N3 : Int) := by omega
        have z3 : ShN (N2 : Int) 8 (N3 : Int) := ⟨by rw [sh8, hc3]⟩
        repeat' (first|refine Ga0 fun _=>?_|refine Ga1 ?_|refine Ga2 (fun _=>?_) fun _=>?_|refine Ga3 ?_|refine Ga4 fun _=>?_|fail)
        refine OW.ixLen (by decide +kernel) (by omega) (fun r hr hr8 => ?_)
        have hr' : r = bitsLen N3 := hr
        repeat' (first|refine Ga0 fun _=>?_|refine Ga1 ?_|refine Ga2 (fun _=>?_) fun _=>?_|refine Ga3 ?_|refine Ga4 fun _=>?_|fail)
        exact bodyK.retD L (Res.one Tryz.results196) ⟨by congr 1; omega, rfl⟩
      · repeat' (first|refine Ga0 fun _=>?_|refine Ga1 ?_|refine Ga2 (fun _=>?_) fun _=>?_|refine Ga3 ?_|refine Ga4 fun _=>?_|fail)
        refine OW.ixLen (by decide +kernel) (by omega) (fun r hr hr8 => ?_)
        have hr' : r = bitsLen N2 := hr
        repeat' (first|refine Ga0 fun _=>?_|refine Ga1 ?_|refine Ga2 (fun _=>?_) fun _=>?_|refine Ga3 ?_|refine Ga4 fun _=>?_|fail)
        exact bodyK.retD L (Res.one Tryz.results196) ⟨by congr 1; omega, rfl⟩
    · have b2 : bitsLen N1 = 0 + bitsLen N1 := by omega
      generalize hq2 : N1 = N2 at *
      by_cases c3 : 256 ≤ N2
      · have b3 : bitsLen N2 = 8 + bitsLen (N2 / 256) := bl_shift (k := 8) c3
        obtain ⟨N3, hN3⟩ : ∃ r, N2 / 256 = r := ⟨_, rfl⟩
        rw [hN3] at b3
        have hc3 : (N2 : Int) / 256 = (N3 : Int) := by omega
        have z3 : ShN (N2 : Int) 8 (N3 : Int) := ⟨by rw [sh8, hc3]⟩
        repeat' (first|refine Ga0 fun _=>?_|refine Ga1 ?_|refine Ga2 (fun _=>?_) fun _=>?_|refine Ga3 ?_|refine Ga4 fun _=>?_|fail)
        refine OW.ixLen (by decide +kernel) (by omega) (fun r hr hr8 => ?_)
        have hr' : r = bitsLen N3 := hr
        repeat' (first|refine Ga0 fun _=>?_|refine Ga1 ?_|refine Ga2 (fun _=>?_) fun _=>?_|refine Ga3 ?_|refine Ga4 fun _=>?_|fail)
        exact bodyK.retD L (Res.one Tryz.results196) ⟨by congr 1; omega, rfl⟩
      · repeat' (first|refine Ga0 fun _=>?_|refine Ga1 ?_|refine Ga2 (fun _=>?_) fun _=>?_|refine Ga3 ?_|refine Ga4 fun _=>?_|fail)
        refine OW.ixLen (by decide +kernel) (by omega) (fun r hr hr8 => ?_)
        have hr' : r = bitsLen N2 := hr
        repeat' (first|refine Ga0 fun _=>?_|refine Ga1 ?_|refine Ga2 (fun _=>?_) fun _=>?_|refine Ga3 ?_|refine Ga4 fun _=>?_|fail)
        exact bodyK.retD L (Res.one Tryz.results196) ⟨by congr 1; omega, rfl⟩
end Go.Proofs.YtmnhooepaemlcaaGreat

namespace Go.Proofs.YtmnhooepaemlcaaGreat
open Go Go.Pw Go.Sort
set_option maxRecDepth 100000
set_option maxHeartbeats 4000000
set_option synthInstance.maxHeartbeats 400000
set_option synthInstance.maxSize 2000
attribute [local irreducible] CW OW RW thenK blockK
attribute [local irreducible] scopeK loopK TRW ATW

theorem bitsLen' (N : Nat) (h : N < 18446744073709551616) (L : Chunk) : Fn1 Tryz.prog 156 [.int .u64 (N : Int)] L (fun u L' => u = .int .i64 (bitsLen N : Nat) ∧ L = L') := by
  intro w0; refine Spec.enter1 Tryz.func156 rfl Tryz.ntmps156 (by decide) ?_
  repeat' (first|refine Ga0 fun _=>?_|refine Ga1 ?_|refine Ga2 (fun _=>?_) fun _=>?_|refine Ga3 ?_|refine Ga4 fun _=>?_|fail)
  refine OW.call (len64 N h _) ?_
  rintro _ _ ⟨rfl, rfl⟩
  repeat' (first|refine Ga0 fun _=>?_|refine Ga1 ?_|refine Ga2 (fun _=>?_) fun _=>?_|refine Ga3 ?_|refine Ga4 fun _=>?_|fail)
  exact bodyK.retD L (Res.one Tryz.results156) ⟨rfl, rfl⟩
theorem nextPow (N : Nat) (h : N < 4611686018427387904) (L : Chunk) : Fn1 Tryz.prog 226 [.int .i64 (N : Int)] L (fun u L' => u = .int .u64 ((1 <<< bitsLen N : Nat) : Int) ∧ L = L') := by
  intro w0; refine Spec.enter1 Tryz.func226 rfl Tryz.ntmps226 (by decide) ?_
  have hk : bitsLen N ≤ 62 := (bitsLen_le_iff N 62).2 (by omega)
  have e : shlV .u64 1 ((bitsLen N : Nat) : Int) = ((1 <<< bitsLen N : Nat) : Int) := by
    unfold shlV
    have e : min ((bitsLen N : Nat) : Int).toNat IntKind.u64.bits = bitsLen N := by
      have : ((bitsLen N : Nat) : Int).toNat = bitsLen N := by omega
      rw [this]; show min (bitsLen N) 64 = bitsLen N; omega
    have h2 : 2 ^ bitsLen N ≤ 2 ^ 62 := Nat.pow_le_pow_right (by decide) hk
    rw [e, Nat.shiftLeft_eq, Nat.one_mul, Int.one_mul, show (2 : Int) ^ bitsLen N = ((2 ^ bitsLen N : Nat) : Int) by simp]
    generalize 2 ^ bitsLen N = q at *
    rw [wrap_in (k := .u64) (by constructor <;> omega)]
  have nn : NN ((bitsLen N : Nat) : Int) := ⟨by omega⟩
  repeat' (first|refine Ga0 fun _=>?_|refine Ga1 ?_|refine Ga2 (fun _=>?_) fun _=>?_|refine Ga3 ?_|refine Ga4 fun _=>?_|fail)
  refine OW.call (bitsLen' N (by omega) _) ?_
  rintro _ _ ⟨rfl, rfl⟩
  repeat' (first|refine Ga0 fun _=>?_|refine Ga1 ?_|refine Ga2 (fun _=>?_) fun _=>?_|refine Ga3 ?_|refine Ga4 fun _=>?_|fail)
  rw [e]
  exact bodyK.retD L (Res.one Tryz.results226) ⟨rfl, rfl⟩
theorem xorNx (r : UInt64) (b : Nat) (L : Chunk) : Fn1 Tryz.prog 227 [.pointer (some ⟨b, 0, none⟩)] ((b, .cells #[.int .u64 (r.toNat : Int)] 323 (0, 0)) :: L)
    (fun u L' => u = .int .u64 ((xorNext r).toNat : Int) ∧ L' = (b, .cells #[.int .u64 ((xorNext r).toNat : Int)] 323 (0, 0)) :: L) := by
  intro w0; refine Spec.enter1 Tryz.func227 rfl Tryz.ntmps227 (by decide) ?_
  have e1 : ∀ r : UInt64, shlV .u64 (r.toNat : Int) 13 = ((r <<< 13).toNat : Int) := fun r => by simpa using shl_u64 r 13 (by decide)
  have e2 : ∀ r : UInt64, shrV .u64 (r.toNat : Int) 7 = ((r >>> 7).toNat : Int) := fun r => by simpa using shr_u64 r 7 (by decide)
  have e3 : ∀ r : UInt64, shlV .u64 (r.toNat : Int) 17 = ((r <<< 17).toNat : Int) := fun r => by simpa using shl_u64 r 17 (by decide)
  repeat' (first|refine Gi0 fun _=>?_|refine Gi1 ?_|refine CW.drawsSw (id := 1) [0, 1, 3, 4] [2, 5, 6, 7] 8 [9] mixed (by kernel_rfl) ?_|refine CW.drawsSw (id := 2) [0, 1, 3, 4] [2, 5, 6, 7] 8 [9] mixed (by kernel_rfl) ?_|refine CW.drawsSw (id := 3) [0, 1, 3, 4] [2, 5, 6, 7] 8 [9] mixed (by kernel_rfl) ?_|refine Gi2 (fun _=>?_) fun _=>?_|refine Gi3 ?_|refine Gi4 fun _=>?_|fail)
  simp only [e1, e2, e3, xor_u64]
  exact bodyK.ret (Res.one Tryz.results227) ⟨rfl, rfl⟩
end Go.Proofs.YtmnhooepaemlcaaGreat

namespace Go.Proofs.YtmnhooepaemlcaaGreat
open Go Go.Pw Go.Sort
set_option maxRecDepth 100000
set_option maxHeartbeats 4000000
set_option synthInstance.maxHeartbeats 400000
set_option synthInstance.maxSize 2000
attribute [local irreducible] CW OW RW thenK blockK
attribute [local irreducible] scopeK loopK TRW ATW

theorem breakStep_eq (lo l m : Nat) (st : UInt64 × Array Int) (idx : Nat) : breakStep lo l m st idx = (xorNext st.1, swp st.2 idx (lo + (if (xorNext st.1).toNat &&& (m - 1) ≥ l then ((xorNext st.1).toNat &&& (m - 1)) - l else (xorNext st.1).toNat &&& (m - 1)))) := rfl
def breakN (lo l m : Nat) : Nat → UInt64 × Array Int → Nat → UInt64 × Array Int
  | 0, st, _ => st
  | k + 1, st, idx => breakN lo l m k (breakStep lo l m st idx) (idx + 1)
theorem breakPatternsU (b cap m lo hi : Nat) (d : Array Int) (rest : List Value) (L : Chunk) (hd : Srt m d) (hlh : lo ≤ hi) (hhm : hi ≤ m) :
    Fn1 Tryz.prog 188 [.slice (some ⟨b, 0, none⟩) m cap, .int .i64 lo, .int .i64 hi] ((b, .cells (kvs .u32 d ++ rest).toArray 46 (0, 0)) :: L)
      (fun _ L' => L' = (b, .cells (kvs .u32 (breakPatterns d lo hi) ++ rest).toArray 46 (0, 0)) :: L) := by
  intro w0; refine Spec.enter3 Tryz.func188 rfl Tryz.ntmps188 (by decide) ?_
  have hml := hd.len
  obtain ⟨l, rfl⟩ : ∃ l, hi = lo + l := ⟨hi - lo, by omega⟩
  have hll : ((lo + l : Nat) : Int) - (lo : Int) = (l : Int) := by omega
  by_cases h8 : l ≥ 8
  · have hfin : breakPatterns d lo (lo + l) = (breakN lo l (1 <<< bitsLen l) 3 (UInt64.ofNat l, d) (lo + l / 4 * 2 - 1)).2 := by
      unfold breakPatterns
      rw [show lo + l - lo = l by omega, if_pos h8]
      rfl
    rw [hfin]
    have hu : (l : Int) = ((UInt64.ofNat l).toNat : Int) := by
      rw [UInt64.toNat_ofNat']
      omega
    have hm2 : (1 <<< bitsLen l) ≤ 2 * l ∧ 1 ≤ 1 <<< bitsLen l := by
      rw [Nat.shiftLeft_eq, Nat.one_mul]
      exact ⟨two_pow_bitsLen_le (by omega), Nat.one_le_two_pow⟩
    have hbl : bitsLen l ≤ 62 := (bitsLen_le_iff l 62).2 (by omega)
    have hmask : ∀ x : UInt64, bitsV .and .u64 (x.toNat : Int) (((1 <<< bitsLen l : Nat) : Int) - 1) = ((x.toNat &&& ((1 <<< bitsLen l) - 1) : Nat) : Int) := fun x => by
      have h1 : 1 <<< bitsLen l = 2 ^ bitsLen l := by rw [Nat.shiftLeft_eq, Nat.one_mul]
      have := mask_u64 x (bitsLen l) (by omega)
      rw [h1] at hm2 ⊢
      generalize 2 ^ bitsLen l = q at *
      rw [show ((q : Nat) : Int) - 1 = ((q - 1 : Nat) : Int) by omega]
      exact this
    generalize hM : 1 <<< bitsLen l = M at *
    repeat' (first|refine Gj0 fun _=>?_|refine Gj1 ?_|refine CW.drawsSw (id := 10) [0, 1, 2, 3, 4, 5, 6, 7, 8, 9, 10, 12, 13, 14] [11, 15] 16 [17, 18, 19] mixed (by kernel_rfl) ?_|refine Gj2 (fun _=>?_) fun _=>?_|refine Gj3 ?_|refine Gj4 fun _=>?_|fail)
    rename_i br
    rw [hll]
    refine OW.call (nextPow l (by omega) _) ?_
    rintro _ _ ⟨rfl, rfl⟩
    rw [hM]
    repeat' (first|refine Gj0 fun _=>?_|refine Gj1 ?_|refine CW.drawsSw (id := 10) [0, 1, 2, 3, 4, 5, 6, 7, 8, 9, 10, 12, 13, 14] [11, 15] 16 [17, 18, 19] mixed (by kernel_rfl) ?_|refine Gj2 (fun _=>?_) fun _=>?_|refine Gj3 ?_|refine Gj4 fun _=>?_|fail)
    rw [show (lo : Int) + (l : Int) / 4 * 2 - 1 = ((lo + l / 4 * 2 - 1 : Nat) : Int) by omega]
    refine CW.loop (fun k ρ ds L' => ds = [] ∧ (∃ (r : UInt64) (d' : Array Int) (idx : Nat), L' = (br, .cells #[.int .u64 (r.toNat : Int)] 323 (0, 0)) :: (b, .cells (kvs .u32 d' ++ rest).toArray 46 (0, 0)) :: L ∧ Srt m d' ∧ k ≤ 3 ∧ idx + k = lo + l / 4 * 2 + 2 ∧ breakN lo l M k (r, d') idx = breakN lo l M 3 (UInt64.ofNat l, d) (lo + l / 4 * 2 - 1) ∧ Ev ρ 9 (.int .i64 (idx : Int))) ∧ Ev ρ 0 (.slice (some ⟨b, 0, none⟩) m cap) ∧ Ev ρ 1 (.int .i64 lo) ∧ Ev ρ 6 (.int .i64 l) ∧ Ev ρ 7 (.pointer (some ⟨br, 0, none⟩)) ∧ Ev ρ 8 (.int .u64 (M : Int))) 3
      ⟨rfl, ⟨UInt64.ofNat l, d, lo + l / 4 * 2 - 1, by rw [← hu], hd, by omega, by omega, rfl, inferInstance⟩, inferInstance, inferInstance, inferInstance, inferInstance, inferInstance⟩ ?_
    rintro k ρ ds L' ⟨rfl, ⟨r, d', idx, rfl, hd', hk, hidx, hfn, e9⟩, e0, e1, e6, e7, e8⟩
    cases k with
    | zero =>
      repeat' (first|refine Gj0 fun _=>?_|refine Gj1 ?_|refine CW.drawsSw (id := 10) [0, 1, 2, 3, 4, 5, 6, 7, 8, 9, 10, 12, 13, 14] [11, 15] 16 [17, 18, 19] mixed (by kernel_rfl) ?_|refine Gj2 (fun _=>?_) fun _=>?_|refine Gj3 ?_|refine Gj4 fun _=>?_|fail)
      refine bodyK.nrmD ((b, .cells (kvs .u32 d' ++ rest).toArray 46 (0, 0)) :: L) (Res.zero Tryz.results188) ?_
      rw [← hfn]
      rfl
    | succ k =>
      have hlt : (idx : Int) ≤ (lo : Int) + (l : Int) / 4 * 2 + 1 := by omega
      rw [breakN, breakStep_eq] at hfn
      simp only at hfn
      have hr1 : (xorNext r).toNat &&& (M - 1) ≤ M - 1 := Nat.and_le_right
      obtain ⟨q, hq⟩ : ∃ q, (xorNext r).toNat &&& (M - 1) = q := ⟨_, rfl⟩
      rw [hq] at hr1 hfn
      have han : AnN ((xorNext r).toNat : Int) ((M : Int) - 1) (q : Int) := ⟨by rw [hmask, hq]⟩
      have l1 : LtS idx d'.size := ⟨by rw [hd'.size]; omega⟩
      by_cases hql : q ≥ l
      · rw [if_pos hql] at hfn
        have l2 : LtS (lo + (q - l)) d'.size := ⟨by rw [hd'.size]; omega⟩
        have t2 : ToN ((lo : Int) + ((q : Int) - (l : Int))) (lo + (q - l)) := ⟨by omega⟩
        repeat' (first|refine Gj0 fun _=>?_|refine Gj1 ?_|refine CW.drawsSw (id := 10) [0, 1, 2, 3, 4, 5, 6, 7, 8, 9, 10, 12, 13, 14] [11, 15] 16 [17, 18, 19] mixed (by kernel_rfl) ?_|refine Gj2 (fun _=>?_) fun _=>?_|refine Gj3 ?_|refine Gj4 fun _=>?_|fail)
        refine OW.call (xorNx r br _) ?_
        rintro _ _ ⟨rfl, rfl⟩
        repeat' (first|refine Gj0 fun _=>?_|refine Gj1 ?_|refine CW.drawsSw (id := 10) [0, 1, 2, 3, 4, 5, 6, 7, 8, 9, 10, 12, 13, 14] [11, 15] 16 [17, 18, 19] mixed (by kernel_rfl) ?_|refine Gj2 (fun _=>?_) fun _=>?_|refine Gj3 ?_|refine Gj4 fun _=>?_|fail)
        rw [show (idx : Int) + 1 = ((idx + 1 : Nat) : Int) by omega]
        exact ⟨k, by omega, rfl, ⟨_, _, idx + 1, rfl, hd'.swp _ _, by omega, by omega, hfn, inferInstance⟩, inferInstance, inferInstance, inferInstance, inferInstance, inferInstance⟩
      · rw [if_neg hql] at hfn
        have l2 : LtS (lo + q) d'.size := ⟨by rw [hd'.size]; omega⟩
        have t2 : ToN ((lo : Int) + (q : Int)) (lo + q) := ⟨by omega⟩
        repeat' (first|refine Gj0 fun _=>?_|refine Gj1 ?_|refine CW.drawsSw (id := 10) [0, 1, 2, 3, 4, 5, 6, 7, 8, 9, 10, 12, 13, 14] [11, 15] 16 [17, 18, 19] mixed (by kernel_rfl) ?_|refine Gj2 (fun _=>?_) fun _=>?_|refine Gj3 ?_|refine Gj4 fun _=>?_|fail)
        refine OW.call (xorNx r br _) ?_
        rintro _ _ ⟨rfl, rfl⟩
        repeat' (first|refine Gj0 fun _=>?_|refine Gj1 ?_|refine CW.drawsSw (id := 10) [0, 1, 2, 3, 4, 5, 6, 7, 8, 9, 10, 12, 13, 14] [11, 15] 16 [17, 18, 19] mixed (by kernel_rfl) ?_|refine Gj2 (fun _=>?_) fun _=>?_|refine Gj3 ?_|refine Gj4 fun _=>?_|fail)
        rw [show (idx : Int) + 1 = ((idx + 1 : Nat) : Int) by omega]
        exact ⟨k, by omega, rfl, ⟨_, _, idx + 1, rfl, hd'.swp _ _, by omega, by omega, hfn, inferInstance⟩, inferInstance, inferInstance, inferInstance, inferInstance, inferInstance⟩
  · have hfin : breakPatterns d lo (lo + l) = d := by
      unfold breakPatterns
      rw [show lo + l - lo = l by omega, if_neg h8]
    rw [hfin]
    repeat' (first|refine Gj0 fun _=>?_|refine Gj1 ?_|refine CW.drawsSw (id := 10) [0, 1, 2, 3, 4, 5, 6, 7, 8, 9, 10, 12, 13, 14] [11, 15] 16 [17, 18, 19] mixed (by kernel_rfl) ?_|refine Gj2 (fun _=>?_) fun _=>?_|refine Gj3 ?_|refine Gj4 fun _=>?_|fail)
    exact bodyK.nrm (Res.zero Tryz.results188) rfl
end Go.Proofs.YtmnhooepaemlcaaGreat

namespace Go.Proofs.YtmnhooepaemlcaaGreat
open Go Go.Pw Go.Sort
set_option maxRecDepth 100000
set_option maxHeartbeats 4000000
set_option synthInstance.maxHeartbeats 400000
set_option synthInstance.maxSize 2000
attribute [local irreducible] CW OW RW thenK blockK
attribute [local irreducible] scopeK loopK TRW ATW

theorem partEq_bound {lo hi : Nat} : ∀ (n i j : Nat) (d : Array Int), j + 1 - i ≤ n → lo < i → i ≤ hi → j < hi → lo < (partEqLoop ltInt lo i j d).1 ∧ (partEqLoop ltInt lo i j d).1 ≤ hi ∧ (partEqLoop ltInt lo i j d).2.size = d.size := by
  intro n
  induction n with
  | zero =>
    intro i j d hn h1 h2 h3
    rw [partEqLoop_two _ _ rfl rfl, up_end (by omega), if_pos (by have := scanDown_le (fun x => ltInt d[lo]! x) d i j; omega)]
    exact ⟨h1, h2, rfl⟩
  | succ n ih =>
    intro i j d hn h1 h2 h3
    obtain ⟨i2, e1⟩ : ∃ r, scanUp (fun x => !ltInt d[lo]! x) d j i = r := ⟨_, rfl⟩
    obtain ⟨j2, e2⟩ : ∃ r, scanDown (fun x => ltInt d[lo]! x) d i2 j = r := ⟨_, rfl⟩
    obtain ⟨u1, u2, _, _⟩ := scanUp_spec (fun x => !ltInt d[lo]! x) d j _ i rfl
    have w1 := scanDown_le (fun x => ltInt d[lo]! x) d i2 j
    rw [e1] at u1 u2
    rw [e2] at w1
    rw [partEqLoop_two i2 j2 e1 e2]
    have hi2 : i2 ≤ hi := by
      rcases Nat.lt_or_ge (j + 1) i with h | h
      · have := up_end (p := fun x => !ltInt d[lo]! x) (d := d) (j := j) (i := i) (by omega)
        omega
      · have := u2 h; omega
    split
    · exact ⟨by simp only; omega, hi2, rfl⟩
    · obtain ⟨r1, r2, r3⟩ := ih (i2 + 1) (j2 - 1) (swp d i2 j2) (by omega) (by omega) (by omega) (by omega)
      exact ⟨r1, r2, by rw [r3, size_swp]⟩
theorem partIns_size {lo hi m : Nat} : ∀ (s i : Nat) (d : Array Int), Srt m d → Srt m (partialIns ltInt lo hi s i d).1
  | 0, i, d, h => h
  | s + 1, i, d, h => by
    rw [pi_step rfl]
    split
    · exact h
    · split
      · exact h
      · apply partIns_size
        split
        · apply suS
          split
          · exact sdS (h.swp _ _)
          · exact h.swp _ _
        · split
          · exact sdS (h.swp _ _)
          · exact h.swp _ _
theorem permS {m a b : Nat} {d d' : Array Int} (h : Srt m d) (hp : PermIn a b d d') : Srt m d' := ⟨hp.1.trans h.size, h.len⟩

def pdqTail (d3 : Array Int) (a b limit pivot : Nat) (wb wp : Bool) : Array Int :=
  if a > 0 && !ltInt d3[a - 1]! d3[pivot]! then
    match partitionEqual ltInt d3 a b pivot with
    | (mid, d4) => if _h : a < mid ∧ mid ≤ b then pdq ltInt d4 mid b limit wb wp else d4
  else
    match partition ltInt d3 a b pivot with
    | (mid, alreadyPartitioned, d4) =>
      if _h : a ≤ mid ∧ mid < b then
        if mid - a < b - mid then
          pdq ltInt (pdq ltInt d4 a mid limit true true) (mid + 1) b limit (decide (mid - a ≥ (b - a) / 8)) alreadyPartitioned
        else
          pdq ltInt (pdq ltInt d4 (mid + 1) b limit true true) a mid limit (decide (b - mid ≥ (b - a) / 8)) alreadyPartitioned
      else d4
theorem pdq_small {d : Array Int} {a b limit : Nat} {wb wp : Bool} (h : b - a ≤ 12) : pdq ltInt d a b limit wb wp = insertionSort ltInt d a b := by rw [pdq]; rw [if_pos h]
theorem pdq_heap {d : Array Int} {a b : Nat} {wb wp : Bool} (h : ¬ b - a ≤ 12) : pdq ltInt d a b 0 wb wp = heapSort ltInt d a b := by rw [pdq]; rw [if_neg h, if_pos rfl]
theorem pdq_step {d : Array Int} {a b limit : Nat} {wb wp : Bool} (h : ¬ b - a ≤ 12) (h0 : ¬ limit = 0) {d1 d2 : Array Int} {limit1 pv c1 : Nat} {c2 hint : Hint} {pi1 : Array Int} {pi2 : Bool}
    (e1 : (if !wb then breakPatterns d a b else d) = d1) (e2 : (if !wb then limit - 1 else limit) = limit1) (e3 : choosePivot ltInt d1 a b = (c1, c2)) (e4 : (if c2 = .decreasing then reverseRange d1 a b else d1) = d2)
    (e5 : (if c2 = .decreasing then (b - 1) - (c1 - a) else c1) = pv) (e6 : (if c2 = .decreasing then Hint.increasing else c2) = hint) (e7 : (if wb && wp && hint = .increasing then partialInsertionSort ltInt d2 a b else (d2, false)) = (pi1, pi2)) :
    pdq ltInt d a b limit wb wp = if pi2 then pi1 else pdqTail pi1 a b limit1 pv wb wp := by
  rw [pdq, if_neg h, if_neg h0]
  simp only [e1, e2, e3, e4, e5, e6, e7]
  rfl
theorem tail_eq {d3 : Array Int} {a b limit pv mid : Nat} {wb wp : Bool} {d4 : Array Int} (h : (decide (a > 0) && !ltInt d3[a - 1]! d3[pv]!) = true) (e : partitionEqual ltInt d3 a b pv = (mid, d4)) (hm : a < mid ∧ mid ≤ b) :
    pdqTail d3 a b limit pv wb wp = pdq ltInt d4 mid b limit wb wp := by
  unfold pdqTail; rw [if_pos h, e]; simp only; rw [dif_pos hm]
theorem tail_part {d3 : Array Int} {a b limit pv mid : Nat} {wb wp ap : Bool} {d4 : Array Int} (h : ¬ (decide (a > 0) && !ltInt d3[a - 1]! d3[pv]!) = true) (e : partition ltInt d3 a b pv = (mid, ap, d4)) (hm : a ≤ mid ∧ mid < b) :
    pdqTail d3 a b limit pv wb wp = if mid - a < b - mid then pdq ltInt (pdq ltInt d4 a mid limit true true) (mid + 1) b limit (decide (mid - a ≥ (b - a) / 8)) ap
      else pdq ltInt (pdq ltInt d4 (mid + 1) b limit true true) a mid limit (decide (b - mid ≥ (b - a) / 8)) ap := by
  unfold pdqTail; rw [if_neg h, e]; simp only; rw [dif_pos hm]
end Go.Proofs.YtmnhooepaemlcaaGreat

namespace Go.Pw
section
variable {P : Program} {w0 : World} {rd : Option Nat} {n : Nat} {K : Post} {ρ : Env} {ds : List Deferred} {L : Chunk} {l : List Oper} {ops : Array Oper}
/-- What holds behind this code, however it went. -/
theorem CW.cut {c : Code} (E : Env → List Deferred → Chunk → Prop) (next : ∀ ρ ds L, E ρ ds L → K .normal ρ ds L) (h : CW P w0 rd n c (thenK E K) ρ ds L) : CW P w0 rd n c K ρ ds L :=
  CW.mono h fun e ρ ds L h => by
    cases e with
    | normal => exact next ρ ds L h
    | _ => exact h
/-- What holds behind this region, however it went. -/
theorem OW.cutK {N : Env → List Deferred → Chunk → Prop} (E : Env → List Deferred → Chunk → Prop) (next : ∀ ρ ds L, E ρ ds L → N ρ ds L)
    (h : ∀ N' : Env → List Deferred → Chunk → Prop, (∀ ρ ds L, E ρ ds L → N' ρ ds L) → OW P w0 rd n ops (thenK N' K) l ρ ds L) : OW P w0 rd n ops (thenK N K) l ρ ds L := h N next
end
end Go.Pw

namespace Go.Proofs.YtmnhooepaemlcaaGreat
open Go Go.Pw Go.Sort
set_option maxRecDepth 100000
set_option maxHeartbeats 4000000
set_option synthInstance.maxHeartbeats 400000
set_option synthInstance.maxSize 2000
attribute [local irreducible] CW OW RW thenK blockK
attribute [local irreducible] scopeK loopK TRW ATW

theorem pdqU (b cap m : Nat) (rest : List Value) : ∀ (n lo hi limit : Nat) (d : Array Int) (L : Chunk), hi - lo < n → lo ≤ hi → hi ≤ m → limit ≤ 1000 → Srt m d →
    Fn1 Tryz.prog 155 [.slice (some ⟨b, 0, none⟩) m cap, .int .i64 lo, .int .i64 hi, .int .i64 limit] ((b, .cells (kvs .u32 d ++ rest).toArray 46 (0, 0)) :: L)
      (fun _ L' => L' = (b, .cells (kvs .u32 (pdq ltInt d lo hi limit true true) ++ rest).toArray 46 (0, 0)) :: L ∧ Srt m (pdq ltInt d lo hi limit true true)) := by
  intro n
  induction n with
  | zero => intro lo hi limit d L h; omega
  | succ n ih =>
  intro lo hi limit d L hn hlh hhm hlim hd
  intro w0; refine Spec.enter4 Tryz.func155 rfl Tryz.ntmps155 (by decide) ?_
  have hml := hd.len
  repeat' (first|refine Gj1 ?_|refine CW.drawsP (id := 17) [0,1,2,3,4,5,6,7,8,9,10,11,12,13,14] mixed (by kernel_rfl) ?_|refine Gj2 (fun _=>?_) fun _=>?_|refine Gj3 ?_|refine Gj4 fun _=>?_|fail)
  refine CW.loop (fun k ρ ds L' => ds = [] ∧ (∃ lo' hi' lim' wb wp d', L' = (b, .cells (kvs .u32 d' ++ rest).toArray 46 (0, 0)) :: L ∧ Srt m d' ∧ lo' ≤ hi' ∧ hi' ≤ m ∧ hi' - lo' ≤ n ∧ lim' ≤ 1000 ∧ k = hi' - lo' ∧ pdq ltInt d' lo' hi' lim' wb wp = pdq ltInt d lo hi limit true true ∧
      Ev ρ 1 (.int .i64 (lo' : Int)) ∧ Ev ρ 2 (.int .i64 (hi' : Int)) ∧ Ev ρ 3 (.int .i64 (lim' : Int)) ∧ Ev ρ 8 (.bool wb) ∧ Ev ρ 9 (.bool wp)) ∧ Ev ρ 0 (.slice (some ⟨b, 0, none⟩) m cap)) (hi - lo)
    ⟨rfl, ⟨lo, hi, limit, true, true, d, rfl, hd, hlh, hhm, by omega, hlim, rfl, rfl, inferInstance, inferInstance, inferInstance, inferInstance, inferInstance⟩, inferInstance⟩ ?_
  clear hlh hhm hlim hd hn
  rintro k ρ ds L' ⟨rfl, ⟨lo', hi', lim', wb, wp, d', rfl, hd', hlh, hhm, hn, hlim, rfl, hfin, e1, e2, e3, e8, e9⟩, e0⟩
  by_cases h12 : hi' - lo' ≤ 12
  · rw [pdq_small h12] at hfin
    repeat' (first|refine Gj0 fun _=>?_|refine Gj1 ?_|refine CW.drawsP (id := 17) [0,1,2,3,4,5,6,7,8,9,10,11,12,13,14] mixed (by kernel_rfl) ?_|refine Gj2 (fun _=>?_) fun _=>?_|refine Gj3 ?_|refine Gj4 fun _=>?_|fail)
    refine OW.call (insertionSortU b cap m lo' hi' d' rest L hd' hlh hhm) ?_
    rintro _ _ rfl
    have hp := (insertionSort_holds (lt := ltInt) swo_ltInt d' lo' hi' hlh (by rw [hd'.size]; exact hhm)).1
    repeat' (first|refine Gj0 fun _=>?_|refine Gj1 ?_|refine CW.drawsP (id := 17) [0,1,2,3,4,5,6,7,8,9,10,11,12,13,14] mixed (by kernel_rfl) ?_|refine Gj2 (fun _=>?_) fun _=>?_|refine Gj3 ?_|refine Gj4 fun _=>?_|fail)
    exact bodyK.ret (Res.zero Tryz.results155) ⟨by rw [hfin], by rw [← hfin]; exact permS hd' hp⟩
  by_cases h0 : lim' = 0
  · subst h0
    rw [pdq_heap h12] at hfin
    repeat' (first|refine Gj0 fun _=>?_|refine Gj1 ?_|refine CW.drawsP (id := 17) [0,1,2,3,4,5,6,7,8,9,10,11,12,13,14] mixed (by kernel_rfl) ?_|refine Gj2 (fun _=>?_) fun _=>?_|refine Gj3 ?_|refine Gj4 fun _=>?_|fail)
    refine OW.call (heapSortU b cap m lo' hi' d' rest L hd' (by omega) hhm) ?_
    rintro _ _ rfl
    have hp := (heapSort_holds (lt := ltInt) swo_ltInt d' lo' hi' hlh (by rw [hd'.size]; exact hhm)).1
    repeat' (first|refine Gj0 fun _=>?_|refine Gj1 ?_|refine CW.drawsP (id := 17) [0,1,2,3,4,5,6,7,8,9,10,11,12,13,14] mixed (by kernel_rfl) ?_|refine Gj2 (fun _=>?_) fun _=>?_|refine Gj3 ?_|refine Gj4 fun _=>?_|fail)
    exact bodyK.ret (Res.zero Tryz.results155) ⟨by rw [hfin], by rw [← hfin]; exact permS hd' hp⟩
  -- what the patterns leave
  obtain ⟨d1, e41⟩ : ∃ r, (if !wb then breakPatterns d' lo' hi' else d') = r := ⟨_, rfl⟩
  obtain ⟨l1, e42⟩ : ∃ r, (if !wb then lim' - 1 else lim') = r := ⟨_, rfl⟩
  obtain ⟨⟨c1, c2⟩, e43⟩ : ∃ r, choosePivot ltInt d1 lo' hi' = r := ⟨_, rfl⟩
  obtain ⟨d2, e44⟩ : ∃ r, (if c2 = .decreasing then reverseRange d1 lo' hi' else d1) = r := ⟨_, rfl⟩
  obtain ⟨pv, e45⟩ : ∃ r, (if c2 = .decreasing then (hi' - 1) - (c1 - lo') else c1) = r := ⟨_, rfl⟩
  obtain ⟨hint, e46⟩ : ∃ r, (if c2 = .decreasing then Hint.increasing else c2) = r := ⟨_, rfl⟩
  obtain ⟨⟨p1, p2⟩, e47⟩ : ∃ r, (if wb && wp && hint = .increasing then partialInsertionSort ltInt d2 lo' hi' else (d2, false)) = r := ⟨_, rfl⟩
  rw [pdq_step h12 h0 e41 e42 e43 e44 e45 e46 e47] at hfin
  have hd1 : Srt m d1 := by
    rw [← e41]
    split
    · exact permS hd' (breakPatterns_holds d' lo' hi' hlh (by rw [hd'.size]; exact hhm))
    · exact hd'
  have hl1 : l1 ≤ 1000 := by rw [← e42]; split <;> omega
  have hcp := choosePivot_holds ltInt d1 lo' hi' (by omega)
  rw [e43] at hcp
  simp only at hcp
  have hd2 : Srt m d2 := by
    rw [← e44]
    split
    · exact permS hd1 (reverseRange_holds d1 lo' hi' hlh (by rw [hd1.size]; exact hhm))
    · exact hd1
  have hpv : lo' ≤ pv ∧ pv < hi' := by rw [← e45]; split <;> omega
  have hp1 : Srt m p1 := by
    have : Srt m (p1, p2).1 := by
      rw [← e47]
      split
      · exact partIns_size _ _ _ hd2
      · exact hd2
    exact this
  repeat' (first|refine Gj0 fun _=>?_|refine Gj1 ?_|refine CW.drawsP (id := 17) [0,1,2,3,4,5,6,7,8,9,10,11,12,13,14] mixed (by kernel_rfl) ?_|refine Gj2 (fun _=>?_) fun _=>?_|refine Gj3 ?_|refine Gj4 fun _=>?_|fail)
  refine CW.cut (fun ρ ds L' => ds = [] ∧ L' = (b, .cells (kvs .u32 d1 ++ rest).toArray 46 (0, 0)) :: L ∧ Ev ρ 3 (.int .i64 (l1 : Int)) ∧ Ev ρ 0 (.slice (some ⟨b, 0, none⟩) m cap) ∧ Ev ρ 1 (.int .i64 (lo' : Int)) ∧ Ev ρ 2 (.int .i64 (hi' : Int)) ∧ Ev ρ 8 (.bool wb) ∧ Ev ρ 9 (.bool wp) ∧ Ev ρ 10 (.int .i64 ((hi' : Int) - (lo' : Int)))) ?_ ?_
  · clear e0 e1 e2 e3 e8 e9
    rintro ρ ds L' ⟨rfl, rfl, e3, e0, e1, e2, e8, e9, e10⟩
    repeat' (first|refine Gj0 fun _=>?_|refine Gj1 ?_|refine CW.drawsP (id := 17) [0,1,2,3,4,5,6,7,8,9,10,11,12,13,14] mixed (by kernel_rfl) ?_|refine Gj2 (fun _=>?_) fun _=>?_|refine Gj3 ?_|refine Gj4 fun _=>?_|fail)
    have hcc := choosePivotU b cap m lo' hi' d1 rest ((b, .cells (kvs .u32 d1 ++ rest).toArray 46 (0, 0)) :: L) hd1 (by omega) hhm
    rw [e43] at hcc
    simp only at hcc
    refine OW.call hcc ?_
    rintro _ _ ⟨rfl, rfl⟩
    refine OW.cutK (fun ρ ds L' => ds = [] ∧ L' = (b, .cells (kvs .u32 d1 ++ rest).toArray 46 (0, 0)) :: L ∧ Ev ρ 11 (.int .i64 (c1 : Int)) ∧ Ev ρ 12 (.int .i64 (hintI c2)) ∧ Ev ρ 0 (.slice (some ⟨b, 0, none⟩) m cap) ∧ Ev ρ 1 (.int .i64 (lo' : Int)) ∧ Ev ρ 2 (.int .i64 (hi' : Int)) ∧ Ev ρ 3 (.int .i64 (l1 : Int)) ∧ Ev ρ 8 (.bool wb) ∧ Ev ρ 9 (.bool wp) ∧ Ev ρ 10 (.int .i64 ((hi' : Int) - (lo' : Int)))) ?_ ?_
    rotate_left
    · intro N hN
      repeat' (first|refine Gj0 fun _=>?_|refine Gj1 ?_|refine CW.drawsP (id := 17) [0,1,2,3,4,5,6,7,8,9,10,11,12,13,14] mixed (by kernel_rfl) ?_|refine Gj2 (fun _=>?_) fun _=>?_|refine Gj3 ?_|refine Gj4 fun _=>?_|fail)
      exact hN _ _ _ ⟨rfl, rfl, inferInstance, inferInstance, inferInstance, inferInstance, inferInstance, inferInstance, inferInstance, inferInstance, inferInstance⟩
    clear e0 e1 e2 e3 e8 e9 e10
    rintro ρ ds L' ⟨rfl, rfl, e11, e12, e0, e1, e2, e3, e8, e9, e10⟩
    refine CW.seq ?_
    refine CW.cut (fun ρ ds L' => ds = [] ∧ L' = (b, .cells (kvs .u32 d2 ++ rest).toArray 46 (0, 0)) :: L ∧ Ev ρ 11 (.int .i64 (pv : Int)) ∧ Ev ρ 12 (.int .i64 (hintI hint)) ∧ Ev ρ 0 (.slice (some ⟨b, 0, none⟩) m cap) ∧ Ev ρ 1 (.int .i64 (lo' : Int)) ∧ Ev ρ 2 (.int .i64 (hi' : Int)) ∧ Ev ρ 3 (.int .i64 (l1 : Int)) ∧ Ev ρ 8 (.bool wb) ∧ Ev ρ 9 (.bool wp) ∧ Ev ρ 10 (.int .i64 ((hi' : Int) - (lo' : Int)))) ?_ ?_
    rotate_left
    · cases c2 with
      | decreasing =>
        simp only [if_true] at e44 e45 e46
        simp only [hintI] at e12
        subst e44
        subst e46
        repeat' (first|refine Gj0 fun _=>?_|refine Gj1 ?_|refine CW.drawsP (id := 17) [0,1,2,3,4,5,6,7,8,9,10,11,12,13,14] mixed (by kernel_rfl) ?_|refine Gj2 (fun _=>?_) fun _=>?_|refine Gj3 ?_|refine Gj4 fun _=>?_|fail)
        refine OW.call (reverseRangeU b cap m lo' hi' d1 rest L hd1 (by omega) hhm) ?_
        rintro _ _ rfl
        repeat' (first|refine Gj0 fun _=>?_|refine Gj1 ?_|refine CW.drawsP (id := 17) [0,1,2,3,4,5,6,7,8,9,10,11,12,13,14] mixed (by kernel_rfl) ?_|refine Gj2 (fun _=>?_) fun _=>?_|refine Gj3 ?_|refine Gj4 fun _=>?_|fail)
        rw [show (hi' : Int) - 1 - ((c1 : Int) - (lo' : Int)) = (pv : Int) by omega]
        exact ⟨rfl, rfl, inferInstance, by show Ev _ 12 (.int .i64 1); infer_instance, inferInstance, inferInstance, inferInstance, inferInstance, inferInstance, inferInstance, inferInstance⟩
      | increasing =>
        rw [if_neg (by decide)] at e44 e45 e46
        simp only [hintI] at e12
        subst e44
        subst e45
        subst e46
        repeat' (first|refine Gj0 fun _=>?_|refine Gj1 ?_|refine CW.drawsP (id := 17) [0,1,2,3,4,5,6,7,8,9,10,11,12,13,14] mixed (by kernel_rfl) ?_|refine Gj2 (fun _=>?_) fun _=>?_|refine Gj3 ?_|refine Gj4 fun _=>?_|fail)
        exact ⟨rfl, rfl, inferInstance, by show Ev _ 12 (.int .i64 1); infer_instance, inferInstance, inferInstance, inferInstance, inferInstance, inferInstance, inferInstance, inferInstance⟩
      | unknown =>
        rw [if_neg (by decide)] at e44 e45 e46
        simp only [hintI] at e12
        subst e44
        subst e45
        subst e46
        repeat' (first|refine Gj0 fun _=>?_|refine Gj1 ?_|refine CW.drawsP (id := 17) [0,1,2,3,4,5,6,7,8,9,10,11,12,13,14] mixed (by kernel_rfl) ?_|refine Gj2 (fun _=>?_) fun _=>?_|refine Gj3 ?_|refine Gj4 fun _=>?_|fail)
        exact ⟨rfl, rfl, inferInstance, by show Ev _ 12 (.int .i64 0); infer_instance, inferInstance, inferInstance, inferInstance, inferInstance, inferInstance, inferInstance, inferInstance⟩
    clear e0 e1 e2 e3 e8 e9 e10 e11 e12
    rintro ρ ds L' ⟨rfl, rfl, e11, e12, e0, e1, e2, e3, e8, e9, e10⟩
    refine thenK_n ?_
    refine CW.seq ?_
    refine CW.cut (fun ρ ds L' => ds = [] ∧ L' = (b, .cells (kvs .u32 p1 ++ rest).toArray 46 (0, 0)) :: L ∧ p2 = false ∧ Ev ρ 11 (.int .i64 (pv : Int)) ∧ Ev ρ 0 (.slice (some ⟨b, 0, none⟩) m cap) ∧ Ev ρ 1 (.int .i64 (lo' : Int)) ∧ Ev ρ 2 (.int .i64 (hi' : Int)) ∧ Ev ρ 3 (.int .i64 (l1 : Int)) ∧ Ev ρ 8 (.bool wb) ∧ Ev ρ 9 (.bool wp) ∧ Ev ρ 10 (.int .i64 ((hi' : Int) - (lo' : Int)))) ?_ ?_
    rotate_left
    · have off : (wb && wp && decide (hint = .increasing)) = false → p1 = d2 ∧ p2 = false := fun h => by
        have h' : ¬ ((wb && wp && decide (hint = .increasing)) = true) := by rw [h]; simp
        rw [if_neg h'] at e47
        cases e47
        exact ⟨rfl, rfl⟩
      cases wb with
      | false =>
        obtain ⟨rfl, rfl⟩ := off (by simp)
        repeat' (first|refine Gj0 fun _=>?_|refine Gj1 ?_|refine CW.drawsP (id := 17) [0,1,2,3,4,5,6,7,8,9,10,11,12,13,14] mixed (by kernel_rfl) ?_|refine Gj2 (fun _=>?_) fun _=>?_|refine Gj3 ?_|refine Gj4 fun _=>?_|fail)
        exact ⟨rfl, rfl, rfl, inferInstance, inferInstance, inferInstance, inferInstance, inferInstance, inferInstance, inferInstance, inferInstance⟩
      | true =>
        cases wp with
        | false =>
          obtain ⟨rfl, rfl⟩ := off (by simp)
          repeat' (first|refine Gj0 fun _=>?_|refine Gj1 ?_|refine CW.drawsP (id := 17) [0,1,2,3,4,5,6,7,8,9,10,11,12,13,14] mixed (by kernel_rfl) ?_|refine Gj2 (fun _=>?_) fun _=>?_|refine Gj3 ?_|refine Gj4 fun _=>?_|fail)
          exact ⟨rfl, rfl, rfl, inferInstance, inferInstance, inferInstance, inferInstance, inferInstance, inferInstance, inferInstance, inferInstance⟩
        | true =>
          cases hint with
          | increasing =>
            rw [if_pos (by decide)] at e47
            simp only [hintI] at e12
            have hpc := partialInsU b cap m lo' hi' d2 rest L hd2 (by omega) hhm
            rw [e47] at hpc
            simp only at hpc
            repeat' (first|refine Gj0 fun _=>?_|refine Gj1 ?_|refine CW.drawsP (id := 17) [0,1,2,3,4,5,6,7,8,9,10,11,12,13,14] mixed (by kernel_rfl) ?_|refine Gj2 (fun _=>?_) fun _=>?_|refine Gj3 ?_|refine Gj4 fun _=>?_|fail)
            refine OW.call hpc ?_
            rintro _ _ ⟨rfl, rfl⟩
            cases p2 with
            | true =>
              repeat' (first|refine Gj0 fun _=>?_|refine Gj1 ?_|refine CW.drawsP (id := 17) [0,1,2,3,4,5,6,7,8,9,10,11,12,13,14] mixed (by kernel_rfl) ?_|refine Gj2 (fun _=>?_) fun _=>?_|refine Gj3 ?_|refine Gj4 fun _=>?_|fail)
              exact bodyK.ret (Res.zero Tryz.results155) ⟨by rw [← hfin, if_pos rfl], by rw [← hfin, if_pos rfl]; exact hp1⟩
            | false =>
              repeat' (first|refine Gj0 fun _=>?_|refine Gj1 ?_|refine CW.drawsP (id := 17) [0,1,2,3,4,5,6,7,8,9,10,11,12,13,14] mixed (by kernel_rfl) ?_|refine Gj2 (fun _=>?_) fun _=>?_|refine Gj3 ?_|refine Gj4 fun _=>?_|fail)
              exact ⟨rfl, rfl, rfl, inferInstance, inferInstance, inferInstance, inferInstance, inferInstance, inferInstance, inferInstance, inferInstance⟩
          | unknown =>
            obtain ⟨rfl, rfl⟩ := off (by decide)
            simp only [hintI] at e12
            repeat' (first|refine Gj0 fun _=>?_|refine Gj1 ?_|refine CW.drawsP (id := 17) [0,1,2,3,4,5,6,7,8,9,10,11,12,13,14] mixed (by kernel_rfl) ?_|refine Gj2 (fun _=>?_) fun _=>?_|refine Gj3 ?_|refine Gj4 fun _=>?_|fail)
            exact ⟨rfl, rfl, rfl, inferInstance, inferInstance, inferInstance, inferInstance, inferInstance, inferInstance, inferInstance, inferInstance⟩
          | decreasing =>
            obtain ⟨rfl, rfl⟩ := off (by decide)
            simp only [hintI] at e12
            repeat' (first|refine Gj0 fun _=>?_|refine Gj1 ?_|refine CW.drawsP (id := 17) [0,1,2,3,4,5,6,7,8,9,10,11,12,13,14] mixed (by kernel_rfl) ?_|refine Gj2 (fun _=>?_) fun _=>?_|refine Gj3 ?_|refine Gj4 fun _=>?_|fail)
            exact ⟨rfl, rfl, rfl, inferInstance, inferInstance, inferInstance, inferInstance, inferInstance, inferInstance, inferInstance, inferInstance⟩
    clear e0 e1 e2 e3 e8 e9 e10 e11 e12
    rintro ρ ds L' ⟨rfl, rfl, rfl, e11, e0, e1, e2, e3, e8, e9, e10⟩
    refine thenK_n ?_
    simp only [Bool.false_eq_true, if_false] at hfin
    clear e41 e42 e43 e44 e45 e46 e47
    have lpv : LtS pv p1.size := ⟨by rw [hp1.size]; omega⟩
    by_cases ha0 : 0 < lo'
    · have lla : LtS (lo' - 1) p1.size := ⟨by rw [hp1.size]; omega⟩
      have tla : ToN ((lo' : Int) - 1) (lo' - 1) := ⟨by omega⟩
      cases hc : ltInt p1[lo' - 1]! p1[pv]! with
      | false =>
        have htl : (decide (lo' > 0) && !ltInt p1[lo' - 1]! p1[pv]!) = true := by rw [hc, decide_eq_true ha0]; rfl
        have hpc := partitionEqualU b cap m lo' hi' pv p1 rest L hp1 hpv.1 hpv.2 hhm
        have hpb := partEq_bound (lo := lo') (hi := hi') _ (lo' + 1) (hi' - 1) (swp p1 lo' pv) (Nat.le_refl _) (by omega) (by omega) (by omega)
        rw [show partEqLoop ltInt lo' (lo' + 1) (hi' - 1) (swp p1 lo' pv) = partitionEqual ltInt p1 lo' hi' pv from rfl, size_swp] at hpb
        obtain ⟨⟨mid, d4⟩, ept⟩ : ∃ r, partitionEqual ltInt p1 lo' hi' pv = r := ⟨_, rfl⟩
        rw [ept] at hpb hpc
        simp only at hpb hpc
        rw [tail_eq htl ept ⟨hpb.1, hpb.2.1⟩] at hfin
        repeat' (first|refine Gj0 fun _=>?_|refine Gj1 ?_|refine CW.drawsP (id := 17) [0,1,2,3,4,5,6,7,8,9,10,11,12,13,14] mixed (by kernel_rfl) ?_|refine Gj2 (fun _=>?_) fun _=>?_|refine Gj3 ?_|refine Gj4 fun _=>?_|fail)
        refine RW.call (lessU _ _ _) ?_
        rintro _ _ ⟨rfl, rfl⟩
        refine pinAll ?_
        rw [hc]
        repeat' (first|refine Gj0 fun _=>?_|refine Gj1 ?_|refine CW.drawsP (id := 17) [0,1,2,3,4,5,6,7,8,9,10,11,12,13,14] mixed (by kernel_rfl) ?_|refine Gj2 (fun _=>?_) fun _=>?_|refine Gj3 ?_|refine Gj4 fun _=>?_|fail)
        refine OW.call hpc ?_
        rintro _ _ ⟨rfl, rfl⟩
        repeat' (first|refine Gj0 fun _=>?_|refine Gj1 ?_|refine CW.drawsP (id := 17) [0,1,2,3,4,5,6,7,8,9,10,11,12,13,14] mixed (by kernel_rfl) ?_|refine Gj2 (fun _=>?_) fun _=>?_|refine Gj3 ?_|refine Gj4 fun _=>?_|fail)
        exact ⟨hi' - mid, by omega, rfl, ⟨mid, hi', l1, wb, wp, d4, rfl, ⟨hpb.2.2.trans hp1.size, hml⟩, hpb.2.1, hhm, by omega, hl1, rfl, hfin, inferInstance, inferInstance, inferInstance, inferInstance, inferInstance⟩, inferInstance⟩
      | true =>
        have htl : ¬ (decide (lo' > 0) && !ltInt p1[lo' - 1]! p1[pv]!) = true := by rw [hc]; simp
        repeat' (first|refine Gj0 fun _=>?_|refine Gj1 ?_|refine CW.drawsP (id := 17) [0,1,2,3,4,5,6,7,8,9,10,11,12,13,14] mixed (by kernel_rfl) ?_|refine Gj2 (fun _=>?_) fun _=>?_|refine Gj3 ?_|refine Gj4 fun _=>?_|fail)
        refine RW.call (lessU _ _ _) ?_
        rintro _ _ ⟨rfl, rfl⟩
        refine pinAll ?_
        rw [hc]
        have hph := partition_holds ltInt swo_ltInt p1 lo' hi' pv hpv.1 hpv.2 (by rw [hp1.size]; exact hhm)
        have hpc := partitionU b cap m lo' hi' pv p1 rest L hp1 hpv.1 hpv.2 hhm
        obtain ⟨⟨mid, ap, d4⟩, ept⟩ : ∃ r, partition ltInt p1 lo' hi' pv = r := ⟨_, rfl⟩
        rw [ept] at hph hpc
        simp only at hph hpc
        have hd4 : Srt m d4 := permS hp1 hph.2.2.1
        obtain ⟨hm1, hm2, _⟩ := hph
        rw [tail_part htl ept ⟨hm1, hm2⟩] at hfin
        repeat' (first|refine Gj0 fun _=>?_|refine Gj1 ?_|refine CW.drawsP (id := 17) [0,1,2,3,4,5,6,7,8,9,10,11,12,13,14] mixed (by kernel_rfl) ?_|refine Gj2 (fun _=>?_) fun _=>?_|refine Gj3 ?_|refine Gj4 fun _=>?_|fail)
        refine OW.call hpc ?_
        rintro _ _ ⟨rfl, rfl⟩
        by_cases hsm : mid - lo' < hi' - mid
        · rw [if_pos hsm] at hfin
          by_cases hbal : mid - lo' ≥ (hi' - lo') / 8
          · rw [decide_eq_true hbal] at hfin
            repeat' (first|refine Gj0 fun _=>?_|refine Gj1 ?_|refine CW.drawsP (id := 17) [0,1,2,3,4,5,6,7,8,9,10,11,12,13,14] mixed (by kernel_rfl) ?_|refine Gj2 (fun _=>?_) fun _=>?_|refine Gj3 ?_|refine Gj4 fun _=>?_|fail)
            refine OW.call (ih lo' mid l1 d4 L (by omega) (by omega) (by omega) hl1 hd4) ?_
            rintro _ _ ⟨rfl, hS⟩
            repeat' (first|refine Gj0 fun _=>?_|refine Gj1 ?_|refine CW.drawsP (id := 17) [0,1,2,3,4,5,6,7,8,9,10,11,12,13,14] mixed (by kernel_rfl) ?_|refine Gj2 (fun _=>?_) fun _=>?_|refine Gj3 ?_|refine Gj4 fun _=>?_|fail)
            exact ⟨hi' - (mid + 1), by omega, rfl, ⟨mid + 1, hi', l1, true, ap, _, rfl, hS, by omega, hhm, by omega, hl1, rfl, hfin, by rw [show ((mid + 1 : Nat) : Int) = (mid : Int) + 1 by omega]; infer_instance, inferInstance, inferInstance, inferInstance, inferInstance⟩, inferInstance⟩
          · rw [decide_eq_false hbal] at hfin
            repeat' (first|refine Gj0 fun _=>?_|refine Gj1 ?_|refine CW.drawsP (id := 17) [0,1,2,3,4,5,6,7,8,9,10,11,12,13,14] mixed (by kernel_rfl) ?_|refine Gj2 (fun _=>?_) fun _=>?_|refine Gj3 ?_|refine Gj4 fun _=>?_|fail)
            refine OW.call (ih lo' mid l1 d4 L (by omega) (by omega) (by omega) hl1 hd4) ?_
            rintro _ _ ⟨rfl, hS⟩
            repeat' (first|refine Gj0 fun _=>?_|refine Gj1 ?_|refine CW.drawsP (id := 17) [0,1,2,3,4,5,6,7,8,9,10,11,12,13,14] mixed (by kernel_rfl) ?_|refine Gj2 (fun _=>?_) fun _=>?_|refine Gj3 ?_|refine Gj4 fun _=>?_|fail)
            exact ⟨hi' - (mid + 1), by omega, rfl, ⟨mid + 1, hi', l1, false, ap, _, rfl, hS, by omega, hhm, by omega, hl1, rfl, hfin, by rw [show ((mid + 1 : Nat) : Int) = (mid : Int) + 1 by omega]; infer_instance, inferInstance, inferInstance, inferInstance, inferInstance⟩, inferInstance⟩
        · rw [if_neg hsm] at hfin
          by_cases hbal : hi' - mid ≥ (hi' - lo') / 8
          · rw [decide_eq_true hbal] at hfin
            repeat' (first|refine Gj0 fun _=>?_|refine Gj1 ?_|refine CW.drawsP (id := 17) [0,1,2,3,4,5,6,7,8,9,10,11,12,13,14] mixed (by kernel_rfl) ?_|refine Gj2 (fun _=>?_) fun _=>?_|refine Gj3 ?_|refine Gj4 fun _=>?_|fail)
            rw [show (mid : Int) + 1 = ((mid + 1 : Nat) : Int) by omega]
            refine OW.call (ih (mid + 1) hi' l1 d4 L (by omega) (by omega) (by omega) hl1 hd4) ?_
            rintro _ _ ⟨rfl, hS⟩
            repeat' (first|refine Gj0 fun _=>?_|refine Gj1 ?_|refine CW.drawsP (id := 17) [0,1,2,3,4,5,6,7,8,9,10,11,12,13,14] mixed (by kernel_rfl) ?_|refine Gj2 (fun _=>?_) fun _=>?_|refine Gj3 ?_|refine Gj4 fun _=>?_|fail)
            exact ⟨mid - lo', by omega, rfl, ⟨lo', mid, l1, true, ap, _, rfl, hS, by omega, by omega, by omega, hl1, rfl, hfin, inferInstance, inferInstance, inferInstance, inferInstance, inferInstance⟩, inferInstance⟩
          · rw [decide_eq_false hbal] at hfin
            repeat' (first|refine Gj0 fun _=>?_|refine Gj1 ?_|refine CW.drawsP (id := 17) [0,1,2,3,4,5,6,7,8,9,10,11,12,13,14] mixed (by kernel_rfl) ?_|refine Gj2 (fun _=>?_) fun _=>?_|refine Gj3 ?_|refine Gj4 fun _=>?_|fail)
            rw [show (mid : Int) + 1 = ((mid + 1 : Nat) : Int) by omega]
            refine OW.call (ih (mid + 1) hi' l1 d4 L (by omega) (by omega) (by omega) hl1 hd4) ?_
            rintro _ _ ⟨rfl, hS⟩
            repeat' (first|refine Gj0 fun _=>?_|refine Gj1 ?_|refine CW.drawsP (id := 17) [0,1,2,3,4,5,6,7,8,9,10,11,12,13,14] mixed (by kernel_rfl) ?_|refine Gj2 (fun _=>?_) fun _=>?_|refine Gj3 ?_|refine Gj4 fun _=>?_|fail)
            exact ⟨mid - lo', by omega, rfl, ⟨lo', mid, l1, false, ap, _, rfl, hS, by omega, by omega, by omega, hl1, rfl, hfin, inferInstance, inferInstance, inferInstance, inferInstance, inferInstance⟩, inferInstance⟩
    · have htl : ¬ (decide (lo' > 0) && !ltInt p1[lo' - 1]! p1[pv]!) = true := by rw [decide_eq_false ha0]; simp
      have hph := partition_holds ltInt swo_ltInt p1 lo' hi' pv hpv.1 hpv.2 (by rw [hp1.size]; exact hhm)
      have hpc := partitionU b cap m lo' hi' pv p1 rest L hp1 hpv.1 hpv.2 hhm
      obtain ⟨⟨mid, ap, d4⟩, ept⟩ : ∃ r, partition ltInt p1 lo' hi' pv = r := ⟨_, rfl⟩
      rw [ept] at hph hpc
      simp only at hph hpc
      have hd4 : Srt m d4 := permS hp1 hph.2.2.1
      obtain ⟨hm1, hm2, _⟩ := hph
      rw [tail_part htl ept ⟨hm1, hm2⟩] at hfin
      repeat' (first|refine Gj0 fun _=>?_|refine Gj1 ?_|refine CW.drawsP (id := 17) [0,1,2,3,4,5,6,7,8,9,10,11,12,13,14] mixed (by kernel_rfl) ?_|refine Gj2 (fun _=>?_) fun _=>?_|refine Gj3 ?_|refine Gj4 fun _=>?_|fail)
      refine OW.call hpc ?_
      rintro _ _ ⟨rfl, rfl⟩
      by_cases hsm : mid - lo' < hi' - mid
      · rw [if_pos hsm] at hfin
        by_cases hbal : mid - lo' ≥ (hi' - lo') / 8
        · rw [decide_eq_true hbal] at hfin
          repeat' (first|refine Gj0 fun _=>?_|refine Gj1 ?_|refine CW.drawsP (id := 17) [0,1,2,3,4,5,6,7,8,9,10,11,12,13,14] mixed (by kernel_rfl) ?_|refine Gj2 (fun _=>?_) fun _=>?_|refine Gj3 ?_|refine Gj4 fun _=>?_|fail)
          refine OW.call (ih lo' mid l1 d4 L (by omega) (by omega) (by omega) hl1 hd4) ?_
          rintro _ _ ⟨rfl, hS⟩
          repeat' (first|refine Gj0 fun _=>?_|refine Gj1 ?_|refine CW.drawsP (id := 17) [0,1,2,3,4,5,6,7,8,9,10,11,12,13,14] mixed (by kernel_rfl) ?_|refine Gj2 (fun _=>?_) fun _=>?_|refine Gj3 ?_|refine Gj4 fun _=>?_|fail)
          exact ⟨hi' - (mid + 1), by omega, rfl, ⟨mid + 1, hi', l1, true, ap, _, rfl, hS, by omega, hhm, by omega, hl1, rfl, hfin, by rw [show ((mid + 1 : Nat) : Int) = (mid : Int) + 1 by omega]; infer_instance, inferInstance, inferInstance, inferInstance, inferInstance⟩, inferInstance⟩
        · rw [decide_eq_false hbal] at hfin
          repeat' (first|refine Gj0 fun _=>?_|refine Gj1 ?_|refine CW.drawsP (id := 17) [0,1,2,3,4,5,6,7,8,9,10,11,12,13,14] mixed (by kernel_rfl) ?_|refine Gj2 (fun _=>?_) fun _=>?_|refine Gj3 ?_|refine Gj4 fun _=>?_|fail)
          refine OW.call (ih lo' mid l1 d4 L (by omega) (by omega) (by omega) hl1 hd4) ?_
          rintro _ _ ⟨rfl, hS⟩
          repeat' (first|refine Gj0 fun _=>?_|refine Gj1 ?_|refine CW.drawsP (id := 17) [0,1,2,3,4,5,6,7,8,9,10,11,12,13,14] mixed (by kernel_rfl) ?_|refine Gj2 (fun _=>?_) fun _=>?_|refine Gj3 ?_|refine Gj4 fun _=>?_|fail)
          exact ⟨hi' - (mid + 1), by omega, rfl, ⟨mid + 1, hi', l1, false, ap, _, rfl, hS, by omega, hhm, by omega, hl1, rfl, hfin, by rw [show ((mid + 1 : Nat) : Int) = (mid : Int) + 1 by omega]; infer_instance, inferInstance, inferInstance, inferInstance, inferInstance⟩, inferInstance⟩
      · rw [if_neg hsm] at hfin
        by_cases hbal : hi' - mid ≥ (hi' - lo') / 8
        · rw [decide_eq_true hbal] at hfin
          repeat' (first|refine Gj0 fun _=>?_|refine Gj1 ?_|refine CW.drawsP (id := 17) [0,1,2,3,4,5,6,7,8,9,10,11,12,13,14] mixed (by kernel_rfl) ?_|refine Gj2 (fun _=>?_) fun _=>?_|refine Gj3 ?_|refine Gj4 fun _=>?_|fail)
          rw [show (mid : Int) + 1 = ((mid + 1 : Nat) : Int) by omega]
          refine OW.call (ih (mid + 1) hi' l1 d4 L (by omega) (by omega) (by omega) hl1 hd4) ?_
          rintro _ _ ⟨rfl, hS⟩
          repeat' (first|refine Gj0 fun _=>?_|refine Gj1 ?_|refine CW.drawsP (id := 17) [0,1,2,3,4,5,6,7,8,9,10,11,12,13,14] mixed (by kernel_rfl) ?_|refine Gj2 (fun _=>?_) fun _=>?_|refine Gj3 ?_|refine Gj4 fun _=>?_|fail)
          exact ⟨mid - lo', by omega, rfl, ⟨lo', mid, l1, true, ap, _, rfl, hS, by omega, by omega, by omega, hl1, rfl, hfin, inferInstance, inferInstance, inferInstance, inferInstance, inferInstance⟩, inferInstance⟩
        · rw [decide_eq_false hbal] at hfin
          repeat' (first|refine Gj0 fun _=>?_|refine Gj1 ?_|refine CW.drawsP (id := 17) [0,1,2,3,4,5,6,7,8,9,10,11,12,13,14] mixed (by kernel_rfl) ?_|refine Gj2 (fun _=>?_) fun _=>?_|refine Gj3 ?_|refine Gj4 fun _=>?_|fail)
          rw [show (mid : Int) + 1 = ((mid + 1 : Nat) : Int) by omega]
          refine OW.call (ih (mid + 1) hi' l1 d4 L (by omega) (by omega) (by omega) hl1 hd4) ?_
          rintro _ _ ⟨rfl, hS⟩
          repeat' (first|refine Gj0 fun _=>?_|refine Gj1 ?_|refine CW.drawsP (id := 17) [0,1,2,3,4,5,6,7,8,9,10,11,12,13,14] mixed (by kernel_rfl) ?_|refine Gj2 (fun _=>?_) fun _=>?_|refine Gj3 ?_|refine Gj4 fun _=>?_|fail)
          exact ⟨mid - lo', by omega, rfl, ⟨lo', mid, l1, false, ap, _, rfl, hS, by omega, by omega, by omega, hl1, rfl, hfin, inferInstance, inferInstance, inferInstance, inferInstance, inferInstance⟩, inferInstance⟩
  · cases wb with
    | true =>
      simp only [Bool.not_true, Bool.false_eq_true, if_false] at e41 e42
      subst e41
      subst e42
      repeat' (first|refine Gj0 fun _=>?_|refine Gj1 ?_|refine CW.drawsP (id := 17) [0,1,2,3,4,5,6,7,8,9,10,11,12,13,14] mixed (by kernel_rfl) ?_|refine Gj2 (fun _=>?_) fun _=>?_|refine Gj3 ?_|refine Gj4 fun _=>?_|fail)
      exact ⟨rfl, rfl, inferInstance, inferInstance, inferInstance, inferInstance, inferInstance, inferInstance, inferInstance⟩
    | false =>
      simp only [Bool.not_false, if_true] at e41 e42
      subst e41
      repeat' (first|refine Gj0 fun _=>?_|refine Gj1 ?_|refine CW.drawsP (id := 17) [0,1,2,3,4,5,6,7,8,9,10,11,12,13,14] mixed (by kernel_rfl) ?_|refine Gj2 (fun _=>?_) fun _=>?_|refine Gj3 ?_|refine Gj4 fun _=>?_|fail)
      refine OW.call (breakPatternsU b cap m lo' hi' d' rest L hd' hlh hhm) ?_
      rintro _ _ rfl
      repeat' (first|refine Gj0 fun _=>?_|refine Gj1 ?_|refine CW.drawsP (id := 17) [0,1,2,3,4,5,6,7,8,9,10,11,12,13,14] mixed (by kernel_rfl) ?_|refine Gj2 (fun _=>?_) fun _=>?_|refine Gj3 ?_|refine Gj4 fun _=>?_|fail)
      rw [show (lim' : Int) - 1 = (l1 : Int) by omega]
      exact ⟨rfl, rfl, inferInstance, inferInstance, inferInstance, inferInstance, inferInstance, inferInstance, inferInstance⟩
end Go.Proofs.YtmnhooepaemlcaaGreat

namespace Go.Proofs.YtmnhooepaemlcaaGreat
open Go Go.Pw Go.Sort
set_option maxRecDepth 100000
set_option maxHeartbeats 4000000
set_option synthInstance.maxHeartbeats 400000
set_option synthInstance.maxSize 2000
attribute [local irreducible] CW OW RW thenK blockK
attribute [local irreducible] scopeK loopK TRW ATW

theorem insNilU (L : Chunk) : Fn1 Tryz.prog 186 [.slice none 0 0, .int .i64 0, .int .i64 0] L (fun _ L' => L = L') := by
  intro w0; refine Spec.enter3 Tryz.func186 rfl Tryz.ntmps186 (by decide) ?_
  repeat' (first|refine Gi0 fun _=>?_|refine Gi1 ?_|refine CW.drawsP (id := 4) [0,1,2,3,4,5,6,7,8,9,10,11,12,13,14] mixed (by kernel_rfl) ?_|refine CW.drawsSw (id := 6) [0, 1, 2, 3, 4, 5, 6, 7, 8, 10, 11, 12] [9, 13] 14 [15, 16, 17] mixed (by kernel_rfl) ?_|refine Gi2 (fun _=>?_) fun _=>?_|refine Gi3 ?_|refine Gi4 fun _=>?_|fail)
  refine CW.loop (fun k ρ ds L' => ds = [] ∧ L' = L ∧ Ev ρ 6 (.int .i64 1) ∧ Ev ρ 0 (.slice none 0 0) ∧ Ev ρ 1 (.int .i64 0) ∧ Ev ρ 2 (.int .i64 0)) 0 ⟨rfl, rfl, inferInstance, inferInstance, inferInstance, inferInstance⟩ ?_
  rintro k ρ ds L' ⟨rfl, rfl, e6, e0, e1, e2⟩
  repeat' (first|refine Gi0 fun _=>?_|refine Gi1 ?_|refine CW.drawsP (id := 4) [0,1,2,3,4,5,6,7,8,9,10,11,12,13,14] mixed (by kernel_rfl) ?_|refine CW.drawsSw (id := 6) [0, 1, 2, 3, 4, 5, 6, 7, 8, 10, 11, 12] [9, 13] 14 [15, 16, 17] mixed (by kernel_rfl) ?_|refine Gi2 (fun _=>?_) fun _=>?_|refine Gi3 ?_|refine Gi4 fun _=>?_|fail)
  exact bodyK.nrm (Res.zero Tryz.results186) rfl
theorem pdqNilU (lim : Nat) (L : Chunk) : Fn1 Tryz.prog 155 [.slice none 0 0, .int .i64 0, .int .i64 0, .int .i64 lim] L (fun _ L' => L = L') := by
  intro w0; refine Spec.enter4 Tryz.func155 rfl Tryz.ntmps155 (by decide) ?_
  repeat' (first|refine Gj0 fun _=>?_|refine Gj1 ?_|refine CW.drawsP (id := 17) [0,1,2,3,4,5,6,7,8,9,10,11,12,13,14] mixed (by kernel_rfl) ?_|refine Gj2 (fun _=>?_) fun _=>?_|refine Gj3 ?_|refine Gj4 fun _=>?_|fail)
  refine CW.loop (fun k ρ ds L' => ds = [] ∧ L' = L ∧ Ev ρ 0 (.slice none 0 0) ∧ Ev ρ 1 (.int .i64 0) ∧ Ev ρ 2 (.int .i64 0)) 0 ⟨rfl, rfl, inferInstance, inferInstance, inferInstance⟩ ?_
  rintro k ρ ds L' ⟨rfl, rfl, e0, e1, e2⟩
  repeat' (first|refine Gj0 fun _=>?_|refine Gj1 ?_|refine CW.drawsP (id := 17) [0,1,2,3,4,5,6,7,8,9,10,11,12,13,14] mixed (by kernel_rfl) ?_|refine Gj2 (fun _=>?_) fun _=>?_|refine Gj3 ?_|refine Gj4 fun _=>?_|fail)
  refine OW.call (insNilU _) ?_
  rintro _ _ rfl
  repeat' (first|refine Gj0 fun _=>?_|refine Gj1 ?_|refine CW.drawsP (id := 17) [0,1,2,3,4,5,6,7,8,9,10,11,12,13,14] mixed (by kernel_rfl) ?_|refine Gj2 (fun _=>?_) fun _=>?_|refine Gj3 ?_|refine Gj4 fun _=>?_|fail)
  exact bodyK.ret (Res.zero Tryz.results155) rfl
theorem sortU (zs : List Int) (u : Value) (N L : Chunk) (hrow : Row 46 1 N u zs.length (zs.map (Value.int .u32))) (hl : zs.length < 4611686018427387904) :
    Fn1 Tryz.prog 111 [u] (N ++ L) (fun _ L' => ∃ N', L' = N' ++ L ∧ Row 46 1 N' u zs.length ((zs.mergeSort fun x y => decide (x ≤ y)).map (Value.int .u32))) := by
  have hbl : bitsLen zs.length ≤ 62 := (bitsLen_le_iff _ 62).2 (by omega)
  rcases hrow.2 with ⟨rfl, h0, rfl⟩ | ⟨b, cap, rest, rfl, rfl, hcap, hrl⟩
  · obtain rfl : zs = [] := List.eq_nil_of_length_eq_zero h0
    intro w0; refine Spec.enter1 Tryz.func111 rfl Tryz.ntmps111 (by decide) ?_
    repeat' (first|refine Ga0 fun _=>?_|refine Ga1 ?_|refine Ga2 (fun _=>?_) fun _=>?_|refine Ga3 ?_|refine Ga4 fun _=>?_|fail)
    refine OW.call (bitsLen' 0 (by decide) _) ?_
    rintro _ _ ⟨rfl, rfl⟩
    repeat' (first|refine Ga0 fun _=>?_|refine Ga1 ?_|refine Ga2 (fun _=>?_) fun _=>?_|refine Ga3 ?_|refine Ga4 fun _=>?_|fail)
    refine OW.call (pdqNilU _ _) ?_
    rintro _ _ rfl
    repeat' (first|refine Ga0 fun _=>?_|refine Ga1 ?_|refine Ga2 (fun _=>?_) fun _=>?_|refine Ga3 ?_|refine Ga4 fun _=>?_|fail)
    exact bodyK.nrm (Res.zero Tryz.results111) ⟨[], rfl, by simpa using hrow⟩
  · intro w0; refine Spec.enter1 Tryz.func111 rfl Tryz.ntmps111 (by decide) ?_
    have hS : Srt zs.length zs.toArray := ⟨by simp, hl⟩
    have hp := pdqU b cap zs.length rest (zs.length + 1) 0 zs.length (bitsLen zs.length) zs.toArray L (by omega) (by omega) (Nat.le_refl _) (by omega) hS
    have hsrt : pdq ltInt zs.toArray 0 zs.length (bitsLen zs.length) true true = (zs.mergeSort fun x y => decide (x ≤ y)).toArray := by
      have := sortInt zs
      unfold Sort.sort at this
      simp only [List.size_toArray] at this
      rw [← this]
    rw [hsrt] at hp
    have hk1 : kvs .u32 zs.toArray = zs.map (Value.int .u32) := rfl
    have hk2 : kvs .u32 (zs.mergeSort fun x y => decide (x ≤ y)).toArray = (zs.mergeSort fun x y => decide (x ≤ y)).map (Value.int .u32) := rfl
    rw [hk1, hk2] at hp
    repeat' (first|refine Ga0 fun _=>?_|refine Ga1 ?_|refine Ga2 (fun _=>?_) fun _=>?_|refine Ga3 ?_|refine Ga4 fun _=>?_|fail)
    refine OW.call (bitsLen' zs.length (by omega) _) ?_
    rintro _ _ ⟨rfl, rfl⟩
    repeat' (first|refine Ga0 fun _=>?_|refine Ga1 ?_|refine Ga2 (fun _=>?_) fun _=>?_|refine Ga3 ?_|refine Ga4 fun _=>?_|fail)
    refine OW.call hp ?_
    rintro _ _ ⟨rfl, _⟩
    repeat' (first|refine Ga0 fun _=>?_|refine Ga1 ?_|refine Ga2 (fun _=>?_) fun _=>?_|refine Ga3 ?_|refine Ga4 fun _=>?_|fail)
    refine bodyK.nrm (Res.zero Tryz.results111) ⟨[_], rfl, ⟨by simp, .inr ⟨b, cap, rest, rfl, rfl, hcap, ?_⟩⟩⟩
    simpa using hrl
end Go.Proofs.YtmnhooepaemlcaaGreat

namespace Go.Proofs.YtmnhooepaemlcaaGreat
open Go Go.Pw Go.Pw.Sc Go.Pw.Md
set_option maxRecDepth 100000
set_option maxHeartbeats 4000000
set_option synthInstance.maxHeartbeats 400000
set_option synthInstance.maxSize 2000
attribute [local irreducible] CW OW RW thenK blockK
attribute [local irreducible] scopeK loopK TRW ATW


theorem mapsKeys (bp : Nat) (L : Chunk) : Fn1 Tryz.prog 61 [.map (some bp)] L
    (fun u L' => ∃ bx, u = .func (.func 112) #[] #[.pointer (some ⟨bx, 0, none⟩)] ∧ L' = (bx, .cells #[.map (some bp)] 140 (0, 0)) :: L) := by
  intro w0; refine Spec.enter1 Tryz.func61 rfl Tryz.ntmps61 (by decide) ?_
  repeat' (first|refine Ga0 fun _=>?_|refine Ga1 ?_|refine Ga2 (fun _=>?_) fun _=>?_|refine Ga3 ?_|refine Ga4 fun _=>?_|fail)
  exact bodyK.ret (Res.one Tryz.results61) ⟨_, rfl, rfl⟩
theorem keys1 (fv : Value) [sf : Sng fv] (bx bp c : Nat) (es : List MapEntry) (J : List MapEntry → Chunk → Prop) (E : Chunk → Prop) (L : Chunk) (hk : KV .u32 es c) (h0 : J es L)
    (hJ : ∀ tz L', J tz L' → InC L' bx (.cells #[.map (some bp)] 140 (0, 0)) ∧ InC L' bp (.map es.toArray c) ∧ (tz = [] → E L') ∧
      ∀ M A e B, tz = A ++ e :: B → e ∈ es → VP Tryz.prog fv [.int .u32 (kI e.key)] (M ++ L') (fun u L'' => ∃ L3, L'' = M ++ L3 ∧ ((u = .bool true ∧ J (A ++ B) L3) ∨ (u = .bool false ∧ E L3))) noPanic) :
    Fn1 Tryz.prog 112 [fv, .pointer (some ⟨bx, 0, none⟩)] L (fun _ L' => E L') := by
  intro w0; refine Spec.enter2 Tryz.func112 rfl Tryz.ntmps112 (by decide) ?_
  obtain ⟨g1, g2, g3⟩ := hJ es L h0
  repeat' (first|refine Ga0 fun _=>?_|refine Ga1 ?_|refine Ga2 (fun _=>?_) fun _=>?_|refine Ga3 ?_|refine Ga4 fun _=>?_|fail)
  rename_i r
  clear g3
  refine CW.loop (fun m ρ ds L' => ds = [] ∧ (∃ tz seen L3, L' = (r, .mapIter (some bp) c seen c) :: L3 ∧ J tz L3 ∧ Go.Pw.Left es seen tz ∧ m = tz.length) ∧ Ev ρ 0 fv ∧ Ev ρ 5 (.pointer (some ⟨r, 0, none⟩))) es.length ⟨rfl, ⟨es, #[], L, rfl, h0, Go.Pw.Left.init es, rfl⟩, inferInstance, inferInstance⟩ ?_
  clear g1 g2 h0
  rintro m ρ ds L' ⟨rfl, ⟨tz, seen, L3, rfl, hj, hl, rfl⟩, e0, e5⟩
  obtain ⟨g1, g2, g3, g4⟩ := hJ tz L3 hj
  repeat' (first|refine Ga0 fun _=>?_|refine Ga1 ?_|refine Ga2 (fun _=>?_) fun _=>?_|refine Ga3 ?_|refine Ga4 fun _=>?_|fail)
  refine OW.nextE (r := r) (m := bp) (since := c) (c0 := c) (clock := c) (seen := seen) (es := es) hk hl (fun e he => hk.old e he) (Nat.le_refl _) (fun h => ?_) (fun A e B htz hze hl' => ?_)
  · repeat' (first|refine Ga0 fun _=>?_|refine Ga1 ?_|refine Ga2 (fun _=>?_) fun _=>?_|refine Ga3 ?_|refine Ga4 fun _=>?_|fail)
    exact bodyK.nrmD L3 (Res.zero Tryz.results112) (g3 h)
  · obtain ⟨j, hkey⟩ := hk.keys e hze
    have hkj : kI e.key = j := by rw [hkey]; rfl
    have g5 := g4 [(r, .mapIter (some bp) c (seen.push e.born) c)] A e B htz hze
    rw [hkj] at g5
    repeat' (first|refine Ga0 fun _=>?_|refine Ga1 ?_|refine Ga2 (fun _=>?_) fun _=>?_|refine Ga3 ?_|refine Ga4 fun _=>?_|fail)
    refine OW.entryE (r := r) (m := bp) (since := c) (c := c) (seen := seen) (e := e) hk hze ?_
    rw [hkey]
    repeat' (first|refine Ga0 fun _=>?_|refine Ga1 ?_|refine Ga2 (fun _=>?_) fun _=>?_|refine Ga3 ?_|refine Ga4 fun _=>?_|fail)
    refine OW.callV1 g5 ?_
    rintro _ _ ⟨L4, rfl, ⟨rfl, hj'⟩ | ⟨rfl, hE⟩⟩
    · repeat' (first|refine Ga0 fun _=>?_|refine Ga1 ?_|refine Ga2 (fun _=>?_) fun _=>?_|refine Ga3 ?_|refine Ga4 fun _=>?_|fail)
      exact ⟨(A ++ B).length, by rw [htz]; simp, rfl, ⟨A ++ B, _, L4, rfl, hj', hl', rfl⟩, inferInstance, inferInstance⟩
    · repeat' (first|refine Ga0 fun _=>?_|refine Ga1 ?_|refine Ga2 (fun _=>?_) fun _=>?_|refine Ga3 ?_|refine Ga4 fun _=>?_|fail)
      exact bodyK.retD L4 (Res.zero Tryz.results112) hE
theorem appendSeq (bx bp c : Nat) (es : List MapEntry) (L : Chunk) [h1 : InC L bx (.cells #[.map (some bp)] 140 (0, 0))] [h2 : InC L bp (.map es.toArray c)] (hk : KV .u32 es c) (hl : es.length ≤ 1073741824) :
    Fn1 Tryz.prog 154 [.slice none 0 0, .func (.func 112) #[] #[.pointer (some ⟨bx, 0, none⟩)]] L
      (fun u L' => ∃ (N : Chunk) (ks : List Int), L' = N ++ L ∧ ks.Perm (es.map fun e => kI e.key) ∧ Row 46 1 N u ks.length (ks.map (Value.int .u32))) := by
  intro w0; refine Spec.enterM2 Tryz.func154 rfl Tryz.ntmps154 (by decide) ?_
  have h1' := h1
  have h2' := h2
  repeat' (first|refine Ga0 fun _=>?_|refine Ga1 ?_|refine Ga2 (fun _=>?_) fun _=>?_|refine Ga3 ?_|refine Ga4 fun _=>?_|fail)
  rename_i b2
  refine CW.rangeFunc (fun lp DD rec hrec => ?_)
  refine (keys1 (.func (.yield lp) #[] #[]) bx bp c es
    (fun tz Lx => ∃ (N : Chunk) (v : Value) (ks : List Int), Lx = (lp, rec .ready none) :: (DD, .deferred (some [])) :: (N ++ ((b2, .cells #[v] 146 (0, 0)) :: L)) ∧ Row 46 1 N v ks.length (ks.map (Value.int .u32)) ∧ (ks ++ tz.map fun e => kI e.key).Perm (es.map fun e => kI e.key))
    (fun Lx => ∃ (N : Chunk) (v : Value) (ks : List Int), Lx = (lp, rec .ready none) :: (DD, .deferred (some [])) :: (N ++ ((b2, .cells #[v] 146 (0, 0)) :: L)) ∧ Row 46 1 N v ks.length (ks.map (Value.int .u32)) ∧ ks.Perm (es.map fun e => kI e.key))
    _ hk ⟨[], _, [], rfl, Row.nil _ _, by simp⟩ ?_ w0).mono ?_ (fun _ _ h => h.elim)
  · rintro tz _ ⟨N, v, ks, rfl, hrow, hp⟩
    have sv := hrow.sng
    refine ⟨inferInstance, inferInstance, fun h => ⟨N, v, ks, rfl, hrow, by subst h; simpa using hp⟩, fun M A e B htz hze => ?_⟩
    have hlk : ks.length ≤ 1073741824 := by
      have := hp.length_eq
      simp only [List.length_append, List.length_map] at this
      omega
    refine VP.front (VP.yield1 hrec (by decide) (fun w0 => ?_))
    repeat' (first|refine Ga0 fun _=>?_|refine Ga1 ?_|refine Ga2 (fun _=>?_) fun _=>?_|refine Ga3 ?_|refine Ga4 fun _=>?_|fail)
    refine beginR ?_
    repeat' (first|refine Ga0 fun _=>?_|refine Ga1 ?_|refine Ga2 (fun _=>?_) fun _=>?_|refine Ga3 ?_|refine Ga4 fun _=>?_|fail)
    rename_i b10
    have hrn : Rd ((b10, Obj.cells #[Value.int .u32 (kI e.key)] 46 (0, 0)) :: (M ++ (lp, rec LoopState.busy none) :: (DD, Obj.deferred (some [])) :: (N ++ (b2, Obj.cells #[v] 146 (0, 0)) :: L))) 1 (.slice (some ⟨b10, 0, none⟩) 1 1) 1 [.int .u32 (kI e.key)] := Rd.blk (l := [_]) rfl (Nat.le_refl _)
    refine OW.append hrow inferInstance hrn (fun v hv => by rw [List.mem_singleton.1 hv]; infer_instance) (by omega) (fun v' N' hrow' => ?_)
    have sv' := hrow'.sng
    repeat' (first|refine Ga0 fun _=>?_|refine Ga1 ?_|refine Ga2 (fun _=>?_) fun _=>?_|refine Ga3 ?_|refine Ga4 fun _=>?_|fail)
    refine roundK.nrm ?_
    have hrow2 : Row 46 1 N' v' (ks ++ [kI e.key]).length ((ks ++ [kI e.key]).map (Value.int .u32)) := by simpa using hrow'
    refine ⟨[_], _, rfl, _, rfl, .inl ⟨rfl, N', v', ks ++ [kI e.key], rfl, hrow2, ?_⟩⟩
    rw [htz] at hp
    refine List.Perm.trans ?_ hp
    rw [List.map_append, List.map_append, List.map_cons, List.append_assoc]
    exact List.Perm.append_left _ (by
      rw [List.singleton_append]
      exact List.perm_middle.symm)
  · rintro u _ ⟨N, v, ks, rfl, hrow, hp⟩
    have sv := hrow.sng
    refine rangeK.nrm ?_
    repeat' (first|refine Ga0 fun _=>?_|refine Ga1 ?_|refine Ga2 (fun _=>?_) fun _=>?_|refine Ga3 ?_|refine Ga4 fun _=>?_|fail)
    exact bodyM.retM (N ++ L) (Res.of1 Tryz.results154) ⟨N, ks, rfl, hp, hrow⟩
theorem collectKeys (bx bp c : Nat) (es : List MapEntry) (L : Chunk) [h1 : InC L bx (.cells #[.map (some bp)] 140 (0, 0))] [h2 : InC L bp (.map es.toArray c)] (hk : KV .u32 es c) (hl : es.length ≤ 1073741824) :
    Fn1 Tryz.prog 110 [.func (.func 112) #[] #[.pointer (some ⟨bx, 0, none⟩)]] L
      (fun u L' => ∃ (N : Chunk) (ks : List Int), L' = N ++ L ∧ ks.Perm (es.map fun e => kI e.key) ∧ Row 46 1 N u ks.length (ks.map (Value.int .u32))) := by
  intro w0; refine Spec.enter1 Tryz.func110 rfl Tryz.ntmps110 (by decide) ?_
  have h1' := h1
  have h2' := h2
  repeat' (first|refine Ga0 fun _=>?_|refine Ga1 ?_|refine Ga2 (fun _=>?_) fun _=>?_|refine Ga3 ?_|refine Ga4 fun _=>?_|fail)
  refine OW.call (appendSeq bx bp c es _ hk hl) ?_
  rintro u _ ⟨N, ks, rfl, hp, hrow⟩
  have sv := hrow.sng
  repeat' (first|refine Ga0 fun _=>?_|refine Ga1 ?_|refine Ga2 (fun _=>?_) fun _=>?_|refine Ga3 ?_|refine Ga4 fun _=>?_|fail)
  exact bodyK.ret (Res.one Tryz.results110) ⟨N, ks, rfl, hp, hrow⟩
theorem sortedKeys (bx bp c : Nat) (es : List MapEntry) (L : Chunk) [h1 : InC L bx (.cells #[.map (some bp)] 140 (0, 0))] [h2 : InC L bp (.map es.toArray c)] (hk : KV .u32 es c) (hl : es.length ≤ 1073741824) :
    Fn1 Tryz.prog 60 [.func (.func 112) #[] #[.pointer (some ⟨bx, 0, none⟩)]] L
      (fun u L' => ∃ (N : Chunk) (ks : List Int), L' = N ++ L ∧ ks.Perm (es.map fun e => kI e.key) ∧ ks.Pairwise (· ≤ ·) ∧ Row 46 1 N u ks.length (ks.map (Value.int .u32))) := by
  intro w0; refine Spec.enter1 Tryz.func60 rfl Tryz.ntmps60 (by decide) ?_
  have h1' := h1
  have h2' := h2
  repeat' (first|refine Ga0 fun _=>?_|refine Ga1 ?_|refine Ga2 (fun _=>?_) fun _=>?_|refine Ga3 ?_|refine Ga4 fun _=>?_|fail)
  refine OW.call (collectKeys bx bp c es _ hk hl) ?_
  rintro u _ ⟨N, ks, rfl, hp, hrow⟩
  have sv := hrow.sng
  have hlen : ks.length < 4611686018427387904 := by
    have := hp.length_eq
    simp only [List.length_map] at this
    omega
  repeat' (first|refine Ga0 fun _=>?_|refine Ga1 ?_|refine Ga2 (fun _=>?_) fun _=>?_|refine Ga3 ?_|refine Ga4 fun _=>?_|fail)
  refine OW.call (sortU ks u N L hrow hlen) ?_
  rintro _ _ ⟨N', rfl, hrow'⟩
  repeat' (first|refine Ga0 fun _=>?_|refine Ga1 ?_|refine Ga2 (fun _=>?_) fun _=>?_|refine Ga3 ?_|refine Ga4 fun _=>?_|fail)
  have hpm := List.mergeSort_perm ks fun x y => decide (x ≤ y)
  have hpw := List.pairwise_mergeSort (le := fun (x y : Int) => decide (x ≤ y)) (fun a b c h1 h2 => by simp only [decide_eq_true_eq] at *; omega) (fun a b => by simp only [Bool.or_eq_true, decide_eq_true_eq]; omega) ks
  refine bodyK.ret (Res.one Tryz.results60) ⟨N', ks.mergeSort fun x y => decide (x ≤ y), rfl, hpm.trans hp, hpw.imp (fun h => by simpa using h), ?_⟩
  rw [hpm.length_eq]
  exact hrow'
end Go.Proofs.YtmnhooepaemlcaaGreat

namespace Go.Pw
section
variable {P : Program} {w0 : World} {rd : Option Nat} {nt : Nat} {K : Post} {ρ : Env} {ds : List Deferred} {L R : Chunk} {l : List Oper} {ops : Array Oper} {ty : TypeId} {d : Nat} {pos : String} {after : Array Edge}
def FldT (P : Program) (s : TypeId) (i : Nat) (ft : TypeId) (off : Nat) : Prop := ∃ fs f, P.underlying s = some (.struct fs) ∧ fs[i]? = some f ∧ f.type = ft ∧ f.offset = off
theorem run_partAgg {w : World} {t : TypeId} {l l' : List Value} {k n : Nat} (ha : Agg P t true) (hz : Siz P t n) (h : CutL l k n l') : (part t l.toArray k).run P w = .ok (.agg l'.toArray) w := by
  have h1 := h.out.1
  have h2 := h.out.2
  have h3 : l.toArray.extract k (k + n) = l'.toArray := by
    apply Array.ext'
    simp [← h2, List.take_drop]
  unfold part
  simp only [Sem.run_bind, ha.out, hz.out, Result.andThen_ok, if_true, Sem.run_pure, Sem.run_ite]
  first
    | rw [h3]
    | (rw [if_pos (by simpa using h1), h3])
    | simp [h3, h1]
theorem yl_fieldAgg {s ft : TypeId} {x : Operand} {i off n : Nat} {l l' : List Value} (hs : FldT P s i ft off) (hz : Siz P ft n) (ha : Agg P ft true) (hx : EvO ρ x (.agg l.toArray)) (hc : CutL l off n l') : Yl P ρ L (.field s x i) ty (.agg l'.toArray) :=
  yl_of_run (fun c h => (by cases h)) fun w o ho _ _ => by
    obtain ⟨fs, f, h1, h2, h3, h4⟩ := hs
    subst h3
    subst h4
    have hp := run_partAgg (P := P) (w := w) ha hz hc
    unfold execOp
    simp [ho, hx.out, Instr.field, run_underlying h1, h2, asAgg, hp]
theorem OW.fieldA {s ft : TypeId} {x : Operand} {i off n : Nat} {l0 l' : List Value} (hs : FldT P s i ft off) [hz : Siz P ft n] [ha : Agg P ft true] [hx : EvO ρ x (.agg l0.toArray)] [hc : CutL l0 off n l']
    (next : OW P w0 rd nt ops K l (upd ρ d (.agg l'.toArray)) ds L) : OW P w0 rd nt ops K (⟨some d, .field s x i, ty, pos, after, none⟩ :: l) ρ ds L := OW.y (yl_fieldAgg hs hz ha hx hc) next
end
end Go.Pw

namespace Go.Proofs.YtmnhooepaemlcaaGreat
open Go Go.Pw Go.Pw.Sc Go.Pw.Md
set_option maxRecDepth 100000
set_option maxHeartbeats 4000000
set_option synthInstance.maxHeartbeats 400000
set_option synthInstance.maxSize 2000
attribute [local irreducible] CW OW RW thenK blockK
attribute [local irreducible] scopeK loopK TRW ATW


@[reducible] def kn (p : Pc) : List Value := [.int .u32 p.ad, .int .i64 p.size, .int .i64 p.room]
def kcells (ps : List Pc) : List Value := ps.flatMap kn
theorem kcells_len (ps : List Pc) : (kcells ps).length = ps.length * 3 := by
  induction ps with
  | nil => rfl
  | cons p ps ih => simp only [kcells, List.flatMap_cons, List.length_append, List.length_cons, List.length_nil] at *; omega
theorem kcells_app (a b : List Pc) : kcells (a ++ b) = kcells a ++ kcells b := by simp [kcells]
theorem wf_len {m : Mod} (h : WF m) : m.L.length ≤ 1073741824 := by
  have key : ∀ l : List Pc, (∀ p ∈ l, PcOk p) → (l.length : Int) ≤ (l.map Pc.room).sum := by
    intro l
    induction l with
    | nil => intro _; simp
    | cons p l ih =>
      intro hok
      have := ih fun q hq => hok q (List.mem_cons_of_mem _ hq)
      have := (hok p (List.mem_cons_self ..)).room
      simp only [List.length_cons, List.map_cons, List.sum_cons]
      omega
  have h1 := key m.L h.ok
  have h2 := h.charge
  have h3 := h.quota1
  unfold Mod.charge at h2
  omega
theorem wf_ads {m : Mod} (h : WF m) : (m.L.map Pc.ad).Pairwise (· ≤ ·) := by
  rw [List.pairwise_map]
  refine List.Pairwise.imp_of_mem (fun {p q} hp hq hpq => ?_) h.apart
  have := (h.ok p hp).room
  omega
theorem modelPieces (bm bp : Nat) (m : Mod) (hwf : WF m) (D L : Chunk) [hm : InC L bm (.cells (mcells m bp).toArray 142 (0, 0))] [hD : MemC D L] (hr : MRest D bp m) :
    Fn1 Tryz.prog 21 [.pointer (some ⟨bm, 0, none⟩)] L (fun u L' => ∃ N, L' = N ++ L ∧ Row 65 3 N u m.L.length (kcells m.L)) := by
  intro w0; refine Spec.enter1 Tryz.func21 rfl Tryz.ntmps21 (by decide) ?_
  have hm' := hm
  obtain ⟨es, c, zs, h1, hk, hz, hp⟩ := hr
  have h1' : InC L bp (.map es.toArray c) := ⟨hD.out _ h1.out⟩
  have hlen := wf_len hwf
  have hpl := hp.length_eq
  have hkeys : es.map (fun e => kI e.key) = (zs.map (·.2)).map Pc.ad := by
    rw [hz.es, List.map_map, List.map_map]
    exact List.map_congr_left fun z hz' => by simp only [Function.comp_apply, (hz.at_ z hz').1, kI]
  have hel : es.length = m.L.length := by rw [hz.es, ← hpl]; simp
  repeat' (first|refine Ga0 fun _=>?_|refine Ga1 ?_|refine Ga2 (fun _=>?_) fun _=>?_|refine Ga3 ?_|refine Ga4 fun _=>?_|fail)
  refine OW.call (modelNone bm bp m _) ?_
  rintro _ _ ⟨rfl, rfl⟩
  repeat' (first|refine Ga0 fun _=>?_|refine Ga1 ?_|refine Ga2 (fun _=>?_) fun _=>?_|refine Ga3 ?_|refine Ga4 fun _=>?_|fail)
  refine OW.call (mapsKeys bp _) ?_
  rintro _ _ ⟨bx, rfl, rfl⟩
  repeat' (first|refine Ga0 fun _=>?_|refine Ga1 ?_|refine Ga2 (fun _=>?_) fun _=>?_|refine Ga3 ?_|refine Ga4 fun _=>?_|fail)
  refine OW.call (sortedKeys bx bp c es _ hk (by omega)) ?_
  rintro uk _ ⟨Nk, ks, rfl, hkp, hkw, hrk⟩
  have suk := hrk.sng
  have hks : ks = m.L.map Pc.ad := by
    refine List.Perm.eq_of_pairwise (le := fun a b : Int => a ≤ b) (fun a b _ _ h1 h2 => by omega) hkw (wf_ads hwf) (hkp.trans ?_)
    rw [hkeys]
    exact hp.map _
  subst hks
  have hkl : (m.L.map Pc.ad).length = m.L.length := by simp
  rw [hkl] at hrk
  obtain ⟨ak, ck, hke⟩ := hrk.slice
  subst hke
  repeat' (first|refine Ga0 fun _=>?_|refine Ga1 ?_|refine Ga2 (fun _=>?_) fun _=>?_|refine Ga3 ?_|refine Ga4 fun _=>?_|fail)
  refine CW.count m.L.length (fun i ρ ds L' => ds = [] ∧ (∃ X N v, L' = X ++ (N ++ (Nk ++ (bx, .cells #[.map (some bp)] 140 (0, 0)) :: L)) ∧ Row 65 3 N v i (kcells (m.L.take i)) ∧ Ev ρ 2 v) ∧ Ev ρ 0 (.pointer (some ⟨bm, 0, none⟩)) ∧ Ev ρ 12 (.slice ak m.L.length ck) ∧ Ev ρ 13 (.int .i64 m.L.length) ∧ Ev ρ 14 (.int .i64 i))
    ⟨rfl, ⟨[], [], _, rfl, Row.nil _ _, inferInstance⟩, inferInstance, inferInstance, inferInstance, inferInstance⟩ ?_
  rintro i ρ ds L' hi ⟨rfl, ⟨X, N, v, rfl, hrow, e2⟩, e0, e12, e13, e14⟩
  have sv := hrow.sng
  by_cases hlt : i < m.L.length
  · obtain ⟨bk, kk, capk, lk, ek, frk, hbe, hbin, hbc, hbn⟩ := hrk.rd.open1 (by omega)
    cases hbe
    have nk := hbn i (.int .u32 m.L[i].ad) hlt (by simp [hlt])
    obtain ⟨z, hz', hzp⟩ := List.mem_map.1 (hp.mem_iff.2 (List.getElem_mem hlt))
    obtain ⟨hkey, vz, hzv, hrd⟩ := hz.at_ z hz'
    have svz := hrd.sng
    have hze : z.1 ∈ es := by rw [hz.es]; exact List.mem_map.2 ⟨z, hz', rfl⟩
    have hfi := hk.find_of hze
    rw [hkey, hzv, hzp] at hfi
    simp only [kI] at hfi
    have htake : m.L.take (i + 1) = m.L.take i ++ [m.L[i]] := by rw [List.take_add_one, List.getElem?_eq_getElem hlt]; rfl
    generalize m.L[i] = p at *
    repeat' (first|refine Ga0 fun _=>?_|refine Ga1 ?_|refine Ga2 (fun _=>?_) fun _=>?_|refine Ga3 ?_|refine Ga4 fun _=>?_|fail)
    refine OW.lookAt (m := bp) (c := c) (es := es) hk.keys hfi ?_
    repeat' (first|refine Ga0 fun _=>?_|refine Ga1 ?_|refine Ga2 (fun _=>?_) fun _=>?_|refine Ga3 ?_|refine Ga4 fun _=>?_|fail)
    refine OW.fieldA (ft := 65) (off := 0) ⟨_, _, Tryz.underlying152, rfl, rfl, rfl⟩ ?_
    repeat' (first|refine Ga0 fun _=>?_|refine Ga1 ?_|refine Ga2 (fun _=>?_) fun _=>?_|refine Ga3 ?_|refine Ga4 fun _=>?_|fail)
    rename_i bt
    have hrn : Rd ((bt, Obj.cells (kn p).toArray 65 (0, 0)) :: (X ++ (N ++ (Nk ++ (bx, Obj.cells #[.map (some bp)] 140 (0, 0)) :: L)))) 3 (.slice (some ⟨bt, 0, none⟩) 1 1) 1 (kn p) := Rd.blk (l := kn p) rfl (Nat.le_refl _)
    refine OW.append hrow inferInstance hrn (fun v hv => by
      simp only [kn, List.mem_cons, List.not_mem_nil, or_false] at hv
      rcases hv with rfl | rfl | rfl <;> infer_instance) (by omega) (fun v' N' hrow' => ?_)
    have sv' := hrow'.sng
    have hrow2 : Row 65 3 N' v' (i + 1) (kcells (m.L.take (i + 1))) := by
      rw [htake, kcells_app]
      simpa [kcells] using hrow'
    repeat' (first|refine Ga0 fun _=>?_|refine Ga1 ?_|refine Ga2 (fun _=>?_) fun _=>?_|refine Ga3 ?_|refine Ga4 fun _=>?_|fail)
    exact ⟨hlt, rfl, ⟨_ :: X, N', v', rfl, hrow2, inferInstance⟩, inferInstance, inferInstance, inferInstance, by rw [Int.natCast_add]; infer_instance⟩
  · obtain rfl : i = m.L.length := by omega
    repeat' (first|refine Ga0 fun _=>?_|refine Ga1 ?_|refine Ga2 (fun _=>?_) fun _=>?_|refine Ga3 ?_|refine Ga4 fun _=>?_|fail)
    rw [List.take_length] at hrow
    exact bodyK.retD (N ++ L) (Res.one Tryz.results21) ⟨N, rfl, hrow⟩
end Go.Proofs.YtmnhooepaemlcaaGreat

namespace Go.Proofs.YtmnhooepaemlcaaGreat
open Go Go.Pw Go.Pw.Sc Go.Pw.Md
set_option maxRecDepth 100000
set_option maxHeartbeats 4000000
set_option synthInstance.maxHeartbeats 400000
set_option synthInstance.maxSize 2000
attribute [local irreducible] CW OW RW thenK blockK
attribute [local irreducible] scopeK loopK TRW ATW


theorem opR {x : OpM} (h : OpR0 x) : OpR x := ⟨h.kind, h.ad, h.size, h.mult, h.many⟩
theorem outR {o : OutM} (h : OutR0 o) : OutR o := ⟨h.errno, h.ad, h.n⟩
theorem num23 (x : Int) (L : Chunk) : Fn1 Tryz.prog 17 [.int .i64 x] L (fun u L' => u = .int .i64 x ∧ L = L') := by
  intro w0; refine Spec.enter1 Tryz.func17 rfl Tryz.ntmps17 (by decide) ?_
  repeat' (first|refine Ga0 fun _=>?_|refine Ga1 ?_|refine Ga2 (fun _=>?_) fun _=>?_|refine Ga3 ?_|refine Ga4 fun _=>?_|fail)
  exact bodyK.retD L (Res.one Tryz.results17) ⟨rfl, rfl⟩
theorem kind23 (x : Int) (L : Chunk) : Fn1 Tryz.prog 18 [.int .i64 x] L (fun u L' => u = .bool (decide (1 ≤ x ∧ x ≤ 7)) ∧ L = L') := by
  intro w0; refine Spec.enter1 Tryz.func18 rfl Tryz.ntmps18 (by decide) ?_
  repeat' (first|refine Ga0 fun _=>?_|refine Ga1 ?_|refine Ga2 (fun _=>?_) fun _=>?_|refine Ga3 ?_|refine Ga4 fun _=>?_|fail)
  · exact bodyK.retD L (Res.one Tryz.results18) ⟨by rw [decide_eq_true (by omega)], rfl⟩
  · exact bodyK.retD L (Res.one Tryz.results18) ⟨by rw [decide_eq_false (by omega)], rfl⟩
  · exact bodyK.retD L (Res.one Tryz.results18) ⟨by rw [decide_eq_false (by omega)], rfl⟩
theorem may23 (bm bp : Nat) (m : Mod) (hwf : WF m) (x : OpM) (hxr : OpR x) (o : OutM) (vx vb : Value) (D L : Chunk) {C : Chunk → Chunk} (hvx : BS L vx x.bytes) [hat : At L [(bm, .cells (mcells m bp).toArray 142 (0, 0))] C] [hD : MemC D (C [])] (hr : MRest D bp m)
    (hb : BS L vb o.bytes) (hor : OutR o) : Fn1 Tryz.prog 57 [.pointer (some ⟨bm, 0, none⟩), opV x vx, outV o vb] L (fun u L' => ∃ N b2, u = .bool ((Md.next m x o).2 && decide (nextE x = 0)) ∧ L' = N ++ C [(bm, .cells (mcells (after m x o) b2).toArray 142 (0, 0))] ∧ MRest (N ++ D) b2 (after m x o)) := by
  have sx := hvx.sng
  have svb := hb.sng
  obtain ⟨A, B, rfl, hC⟩ := hat.out
  obtain rfl : C = fun X => A ++ X ++ B := funext hC
  clear hat hC
  intro w0; refine Spec.enter3 Tryz.func57 rfl Tryz.ntmps57 (by decide) ?_
  have hfin : ∀ (N : Chunk) (b4 b5 : Nat × Obj) (b2 : Nat), MRest (N ++ D) b2 (after m x o) → MRest ((N ++ [b5, b4]) ++ D) b2 (after m x o) := fun N b4 b5 b2 h => by
    have : MemC (N ++ D) ((N ++ [b5, b4]) ++ D) := ⟨fun q hq => by
      simp only [List.mem_append] at hq ⊢
      rcases hq with h | h
      · exact .inl (.inl h)
      · exact .inr h⟩
    exact h.to
  repeat' (first|refine Ga0 fun _=>?_|refine Ga1 ?_|refine Ga2 (fun _=>?_) fun _=>?_|refine Ga3 ?_|refine Ga4 fun _=>?_|fail)
  rename_i b4 b5
  generalize h4 : (b4, Obj.cells #[Value.int .i64 x.kind, Value.int .u32 x.ad, Value.int .u64 x.size, Value.int .u64 x.mult, Value.int .u64 x.many, vx] 50 (0, 0)) = o4
  generalize h5 : (b5, Obj.cells #[Value.int .i64 o.errno, Value.int .u32 o.ad, Value.int .i64 o.n, vb] 56 (0, 0)) = o5
  have hcall := modelDo bm bp m hwf x hxr o vx vb D (o5 :: o4 :: (A ++ [(bm, Obj.cells (mcells m bp).toArray 142 (0, 0))] ++ B)) (C := fun X => o5 :: o4 :: (A ++ X ++ B)) hvx.to (hat := ⟨o5 :: o4 :: A, B, by simp, fun X => by simp⟩) (hD := ⟨fun q hq => List.mem_cons_of_mem _ (List.mem_cons_of_mem _ (hD.out q hq))⟩) hr hb.to hor
  refine OW.call hcall ?_
  rintro _ _ ⟨N, b2, rfl, rfl, hrest⟩
  have hrest2 := hfin N o4 o5 b2 hrest
  have hN : N ++ o5 :: o4 :: (A ++ [(bm, Obj.cells (mcells (after m x o) b2).toArray 142 (0, 0))] ++ B) = (N ++ [o5, o4]) ++ (A ++ [(bm, Obj.cells (mcells (after m x o) b2).toArray 142 (0, 0))] ++ B) := by simp
  simp only
  rw [hN]
  cases hq : (Md.next m x o).2 with
  | false =>
    repeat' (first|refine Ga0 fun _=>?_|refine Ga1 ?_|refine Ga2 (fun _=>?_) fun _=>?_|refine Ga3 ?_|refine Ga4 fun _=>?_|fail)
    exact bodyK.ret (Res.one Tryz.results57) ⟨N ++ [o5, o4], b2, rfl, rfl, hrest2⟩
  | true =>
    repeat' (first|refine Ga0 fun _=>?_|refine Ga1 ?_|refine Ga2 (fun _=>?_) fun _=>?_|refine Ga3 ?_|refine Ga4 fun _=>?_|fail)
    refine OW.call (num23 _ _) ?_
    rintro _ _ ⟨rfl, rfl⟩
    by_cases he : nextE x = 0
    · rw [decide_eq_true he]
      repeat' (first|refine Ga0 fun _=>?_|refine Ga1 ?_|refine Ga2 (fun _=>?_) fun _=>?_|refine Ga3 ?_|refine Ga4 fun _=>?_|fail)
      exact bodyK.ret (Res.one Tryz.results57) ⟨N ++ [o5, o4], b2, rfl, rfl, hrest2⟩
    · rw [decide_eq_false he]
      repeat' (first|refine Ga0 fun _=>?_|refine Ga1 ?_|refine Ga2 (fun _=>?_) fun _=>?_|refine Ga3 ?_|refine Ga4 fun _=>?_|fail)
      exact bodyK.ret (Res.one Tryz.results57) ⟨N ++ [o5, o4], b2, rfl, rfl, hrest2⟩

def fewOk (a : ActM) : Prop := a.op.many ≤ 300 ∨ 16777216 < a.op.many
theorem few23 (v : Value) (acts : List ActM) (mx : Int) (L : Chunk) (h : AS L v acts) : Fn1 Tryz.prog 16 [v, .int .i64 mx] L (fun u L' => (∃ f, u = .bool f ∧ (f = true → ∀ a ∈ acts, fewOk a)) ∧ L = L') := by
  have hl := h.len
  obtain ⟨a, c, rfl⟩ := h.slice
  intro w0; refine Spec.enter2 Tryz.func16 rfl Tryz.ntmps16 (by decide) ?_
  repeat' (first|refine Ga0 fun _=>?_|refine Ga1 ?_|refine Ga2 (fun _=>?_) fun _=>?_|refine Ga3 ?_|refine Ga4 fun _=>?_|fail)
  refine CW.count acts.length (fun i ρ ds L' => ds = [] ∧ (∃ X, L' = X ++ L) ∧ (∀ a ∈ acts.take i, fewOk a) ∧ Ev ρ 0 (.slice a acts.length c) ∧ Ev ρ 1 (.int .i64 mx) ∧ Ev ρ 5 (.int .i64 (i : Int))) ⟨rfl, ⟨[], rfl⟩, by simp, inferInstance, inferInstance, inferInstance⟩ ?_
  rintro i ρ ds L' hi ⟨rfl, ⟨X, rfl⟩, hg, e0, e1, e5⟩
  by_cases hlt : i < acts.length
  · obtain ⟨bk, kk, capk, lk, ek, frk, hbe, hbin, hbc, hbn⟩ := h.open (by omega)
    cases hbe
    obtain ⟨cc, hcut, vx, vb, rfl, hvx, hvb, hor, hou⟩ := hbn i hlt
    have hc1 := cutSub hcut 0 6 (by decide)
    have hc2 := cutSub (cutSub hcut 6 4 (by decide)) 3 1 (by decide)
    obtain ⟨ax, cx, rfl⟩ := hvx.slice
    obtain ⟨ab, cb, rfl⟩ := hvb.slice
    have n2 := hc2.nth rfl
    simp only [Nat.add_zero] at hc1
    have hc1' : CutL lk (kk + i * 11) 6 (opC acts[i].op (.slice ax acts[i].op.bytes.length cx)) := hc1
    have hsnoc : fewOk acts[i] → ∀ a ∈ acts.take (i + 1), fewOk a := fun h a ha => by
      rw [List.take_add_one, List.getElem?_eq_getElem hlt] at ha
      rcases List.mem_append.1 ha with ha | ha
      · exact hg a ha
      · rw [List.mem_singleton.1 ha]; exact h
    obtain ⟨r1, r2⟩ := hor.many
    obtain ⟨q1, q2⟩ := hor.size
    have hb1 := hvx.len
    have hb2 := hvb.len
    unfold fewOk at hsnoc
    generalize acts[i] = aa at *
    repeat' (first|refine Ga0 fun _=>?_|refine Ga1 ?_|refine Ga2 (fun _=>?_) fun _=>?_|refine Ga3 ?_|refine Ga4 fun _=>?_|fail)
    all_goals first
      | exact bodyK.retD L (Res.one Tryz.results16) ⟨⟨false, rfl, fun h => (by cases h)⟩, rfl⟩
      | exact ⟨hlt, rfl, ⟨_ :: X, rfl⟩, hsnoc (by omega), inferInstance, inferInstance, by rw [Int.natCast_add]; infer_instance⟩
  · obtain rfl : i = acts.length := by omega
    rw [List.take_length] at hg
    repeat' (first|refine Ga0 fun _=>?_|refine Ga1 ?_|refine Ga2 (fun _=>?_) fun _=>?_|refine Ga3 ?_|refine Ga4 fun _=>?_|fail)
    all_goals exact bodyK.retD L (Res.one Tryz.results16) ⟨⟨_, rfl, fun _ => hg⟩, rfl⟩
end Go.Proofs.YtmnhooepaemlcaaGreat

namespace Go.Proofs.YtmnhooepaemlcaaGreat
open Go Go.Pw Go.Pw.Sc Go.Pw.Md
set_option maxRecDepth 100000
set_option maxHeartbeats 4000000
set_option synthInstance.maxHeartbeats 400000
set_option synthInstance.maxSize 2000
attribute [local irreducible] CW OW RW thenK blockK
attribute [local irreducible] scopeK loopK TRW ATW


theorem doC (bm bp : Nat) (m : Mod) (hwf : WF m) (x : OpM) (hxr : OpR x) (o : OutM) (vx vb : Value) (L : Chunk) {C : Chunk → Chunk} (hvx : BS L vx x.bytes) [hat : At L [(bm, .cells (mcells m bp).toArray 142 (0, 0))] C] (hr : MRest (C []) bp m)
    (hb : BS L vb o.bytes) (hor : OutR o) : Fn1 Tryz.prog 20 [.pointer (some ⟨bm, 0, none⟩), opV x vx, outV o vb] L (fun u L' => ∃ N b2, u = .tuple #[.bool (Md.next m x o).2, .int .i64 (nextE x)] ∧ L' = N ++ C [(bm, .cells (mcells (after m x o) b2).toArray 142 (0, 0))] ∧ MRest (N ++ C []) b2 (after m x o)) :=
  modelDo bm bp m hwf x hxr o vx vb (C []) L hvx (hD := ⟨fun _ h => h⟩) hr hb hor
theorem mayC (bm bp : Nat) (m : Mod) (hwf : WF m) (x : OpM) (hxr : OpR x) (o : OutM) (vx vb : Value) (L : Chunk) {C : Chunk → Chunk} (hvx : BS L vx x.bytes) [hat : At L [(bm, .cells (mcells m bp).toArray 142 (0, 0))] C] (hr : MRest (C []) bp m)
    (hb : BS L vb o.bytes) (hor : OutR o) {q : Bool} (hq : ((Md.next m x o).2 && decide (nextE x = 0)) = q) : Fn1 Tryz.prog 57 [.pointer (some ⟨bm, 0, none⟩), opV x vx, outV o vb] L (fun u L' => ∃ N b2, u = .bool q ∧ L' = N ++ C [(bm, .cells (mcells (after m x o) b2).toArray 142 (0, 0))] ∧ MRest (N ++ C []) b2 (after m x o)) := by
  have := may23 bm bp m hwf x hxr o vx vb (C []) L hvx (hD := ⟨fun _ h => h⟩) hr hb hor
  rw [hq] at this
  exact this

@[reducible] def wx1 : OpM := ⟨1, 0, 10, 1, 0, []⟩
@[reducible] def wx2 : OpM := ⟨1, 0, 80, 1, 0, []⟩
@[reducible] def wx3 : OpM := ⟨3, 1048848, 0, 0, 0, []⟩
@[reducible] def wx4 : OpM := ⟨5, 1048896, 0, 0, 0, []⟩
@[reducible] def wo1 : OutM := ⟨0, 1048848, 0, []⟩
@[reducible] def wo2 : OutM := ⟨0, 1048896, 0, []⟩
@[reducible] def wo3 : OutM := ⟨301, 0, 0, []⟩
@[reducible] def wo4 : OutM := ⟨320, 0, 0, []⟩
@[reducible] def wo5 : OutM := ⟨0, 0, 0, []⟩
@[reducible] def wo6 : OutM := ⟨0, 0, 16, []⟩
@[reducible] def wm0 : Mod := ⟨0, 100, []⟩
@[reducible] def wm1 : Mod := after wm0 wx1 wo1
@[reducible] def wm2 : Mod := after wm1 wx1 wo1
@[reducible] def wm3 : Mod := after wm2 wx1 wo2
@[reducible] def wm4 : Mod := after wm3 wx1 wo3
@[reducible] def wm5 : Mod := after wm4 wx2 wo3
@[reducible] def wm6 : Mod := after wm5 wx3 wo4
@[reducible] def wm7 : Mod := after wm6 wx3 wo5
theorem wq1 : ((Md.next wm0 wx1 wo1).2 && decide (nextE wx1 = 0)) = true := by decide +kernel
theorem wq2 : ((Md.next wm1 wx1 wo1).2 && decide (nextE wx1 = 0)) = false := by decide +kernel
theorem wq3 : ((Md.next wm2 wx1 wo2).2 && decide (nextE wx1 = 0)) = true := by decide +kernel
theorem wq4 : ((Md.next wm3 wx1 wo3).2 && decide (nextE wx1 = 0)) = false := by decide +kernel
theorem wq5 : ((Md.next wm4 wx2 wo3).2 && decide (nextE wx2 = 0)) = true := by decide +kernel
theorem wq6 : ((Md.next wm5 wx3 wo4).2 && decide (nextE wx3 = 0)) = false := by decide +kernel
theorem wq7 : ((Md.next wm6 wx3 wo5).2 && decide (nextE wx3 = 0)) = true := by decide +kernel
theorem wq8 : ((Md.next wm7 wx4 wo6).2 && decide (nextE wx4 = 0)) = true := by decide +kernel
theorem ww0 : WF wm0 := start_wf (by decide)
theorem wwn {m : Mod} (h : WF m) (x : OpM) (o : OutM) (h0 : 0 ≤ o.ad) (h1 : x.bytes = []) (h2 : o.bytes = []) : WF (after m x o) := after_wf h h0 (by rw [h1]; intro _ h; cases h) (by rw [h2]; intro _ h; cases h)
theorem ww1 : WF wm1 := wwn ww0 wx1 wo1 (by decide) rfl rfl
theorem ww2 : WF wm2 := wwn ww1 wx1 wo1 (by decide) rfl rfl
theorem ww3 : WF wm3 := wwn ww2 wx1 wo2 (by decide) rfl rfl
theorem ww4 : WF wm4 := wwn ww3 wx1 wo3 (by decide) rfl rfl
theorem ww5 : WF wm5 := wwn ww4 wx2 wo3 (by decide) rfl rfl
theorem ww6 : WF wm6 := wwn ww5 wx3 wo4 (by decide) rfl rfl
theorem ww7 : WF wm7 := wwn ww6 wx3 wo5 (by decide) rfl rfl
theorem wr1 : OpR wx1 := ⟨by decide, by decide, by decide, by decide, by decide⟩
theorem wr2 : OpR wx2 := ⟨by decide, by decide, by decide, by decide, by decide⟩
theorem wr3 : OpR wx3 := ⟨by decide, by decide, by decide, by decide, by decide⟩
theorem wr4 : OpR wx4 := ⟨by decide, by decide, by decide, by decide, by decide⟩
theorem wt1 : OutR wo1 := ⟨by decide, by decide, by decide⟩
theorem wt2 : OutR wo2 := ⟨by decide, by decide, by decide⟩
theorem wt3 : OutR wo3 := ⟨by decide, by decide, by decide⟩
theorem wt4 : OutR wo4 := ⟨by decide, by decide, by decide⟩
theorem wt5 : OutR wo5 := ⟨by decide, by decide, by decide⟩
theorem wt6 : OutR wo6 := ⟨by decide, by decide, by decide⟩

theorem works23 (L : Chunk) : Fn1 Tryz.prog 19 [] L (fun u L' => u = .bool true ∧ L = L') := by
  intro w0; refine Spec.enter0 Tryz.func19 rfl Tryz.ntmps19 ?_
  repeat' (first|refine Ga0 fun _=>?_|refine Ga1 ?_|refine Ga2 (fun _=>?_) fun _=>?_|refine Ga3 ?_|refine Ga4 fun _=>?_|fail)
  refine OW.call (modelNew 0 100 _) ?_
  intro u L' hu
  rw [if_pos (by decide)] at hu
  obtain ⟨bn, bp, rfl, rfl⟩ := hu
  repeat' (first|refine Ga0 fun _=>?_|refine Ga1 ?_|refine Ga2 (fun _=>?_) fun _=>?_|refine Ga3 ?_|refine Ga4 fun _=>?_|fail)
  refine OW.call (num23 _ _) ?_
  rintro _ _ ⟨rfl, rfl⟩
  repeat' (first|refine Ga0 fun _=>?_|refine Ga1 ?_|refine Ga2 (fun _=>?_) fun _=>?_|refine Ga3 ?_|refine Ga4 fun _=>?_|fail)
  refine OW.call (mayC bn bp wm0 ww0 wx1 wr1 wo1 (.slice none 0 0) (.slice none 0 0) _ (BS.nil _) ?_ (BS.nil _) wt1 wq1) ?_
  · exact ⟨[], 0, [], inferInstance, KV.nil _, ⟨rfl, fun _ h => (by cases h)⟩, .refl _⟩
  rintro _ _ ⟨N1, b1, rfl, rfl, h1⟩
  repeat' (first|refine Ga0 fun _=>?_|refine Ga1 ?_|refine Ga2 (fun _=>?_) fun _=>?_|refine Ga3 ?_|refine Ga4 fun _=>?_|fail)
  refine OW.call (mayC bn b1 wm1 ww1 wx1 wr1 wo1 (.slice none 0 0) (.slice none 0 0) _ (BS.nil _) h1 (BS.nil _) wt1 wq2) ?_
  rintro _ _ ⟨N2, b2, rfl, rfl, h2⟩
  repeat' (first|refine Ga0 fun _=>?_|refine Ga1 ?_|refine Ga2 (fun _=>?_) fun _=>?_|refine Ga3 ?_|refine Ga4 fun _=>?_|fail)
  refine OW.call (mayC bn b2 wm2 ww2 wx1 wr1 wo2 (.slice none 0 0) (.slice none 0 0) _ (BS.nil _) h2 (BS.nil _) wt2 wq3) ?_
  rintro _ _ ⟨N3, b3, rfl, rfl, h3⟩
  repeat' (first|refine Ga0 fun _=>?_|refine Ga1 ?_|refine Ga2 (fun _=>?_) fun _=>?_|refine Ga3 ?_|refine Ga4 fun _=>?_|fail)
  refine OW.call (mayC bn b3 wm3 ww3 wx1 wr1 wo3 (.slice none 0 0) (.slice none 0 0) _ (BS.nil _) h3 (BS.nil _) wt3 wq4) ?_
  rintro _ _ ⟨N4, b4, rfl, rfl, h4⟩
  repeat' (first|refine Ga0 fun _=>?_|refine Ga1 ?_|refine Ga2 (fun _=>?_) fun _=>?_|refine Ga3 ?_|refine Ga4 fun _=>?_|fail)
  refine OW.call (mayC bn b4 wm4 ww4 wx2 wr2 wo3 (.slice none 0 0) (.slice none 0 0) _ (BS.nil _) h4 (BS.nil _) wt3 wq5) ?_
  rintro _ _ ⟨N5, b5, rfl, rfl, h5⟩
  repeat' (first|refine Ga0 fun _=>?_|refine Ga1 ?_|refine Ga2 (fun _=>?_) fun _=>?_|refine Ga3 ?_|refine Ga4 fun _=>?_|fail)
  refine OW.call (mayC bn b5 wm5 ww5 wx3 wr3 wo4 (.slice none 0 0) (.slice none 0 0) _ (BS.nil _) h5 (BS.nil _) wt4 wq6) ?_
  rintro _ _ ⟨N6, b6, rfl, rfl, h6⟩
  repeat' (first|refine Ga0 fun _=>?_|refine Ga1 ?_|refine Ga2 (fun _=>?_) fun _=>?_|refine Ga3 ?_|refine Ga4 fun _=>?_|fail)
  refine OW.call (mayC bn b6 wm6 ww6 wx3 wr3 wo5 (.slice none 0 0) (.slice none 0 0) _ (BS.nil _) h6 (BS.nil _) wt5 wq7) ?_
  rintro _ _ ⟨N7, b7, rfl, rfl, h7⟩
  repeat' (first|refine Ga0 fun _=>?_|refine Ga1 ?_|refine Ga2 (fun _=>?_) fun _=>?_|refine Ga3 ?_|refine Ga4 fun _=>?_|fail)
  refine OW.call (mayC bn b7 wm7 ww7 wx4 wr4 wo6 (.slice none 0 0) (.slice none 0 0) _ (BS.nil _) h7 (BS.nil _) wt6 wq8) ?_
  rintro _ _ ⟨N8, b8, rfl, rfl, h8⟩
  repeat' (first|refine Ga0 fun _=>?_|refine Ga1 ?_|refine Ga2 (fun _=>?_) fun _=>?_|refine Ga3 ?_|refine Ga4 fun _=>?_|fail)
  exact bodyK.retD L (Res.one Tryz.results19) ⟨rfl, rfl⟩
end Go.Proofs.YtmnhooepaemlcaaGreat
