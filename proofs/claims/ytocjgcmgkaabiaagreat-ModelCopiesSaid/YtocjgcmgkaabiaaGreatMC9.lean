/-
  For every input the law ModelCopies returns true, and each argument reads behind the call as it read before. This text holds lemmas for it (part 9).
  Conditions: none.
-/
import Derived.Test.YtocjgcmgkaabiaaGreatMC2
import Derived.Test.YtocjgcmgkaabiaaGreatMC3
import Derived.Test.YtocjgcmgkaabiaaGreatMC7
import Derived.Test.YtocjgcmgkaabiaaGreatMC8
set_option linter.all false
namespace Go.Proofs.YtocjgcmgkaabiaaGreat
open Go Go.Pw Go.Sort
set_option maxRecDepth 100000
set_option maxHeartbeats 4000000
set_option synthInstance.maxHeartbeats 400000
set_option synthInstance.maxSize 2000
attribute [local irreducible] CW OW RW thenK blockK
attribute [local irreducible] scopeK loopK TRW ATW

theorem sh32 {x : Int} : shrV .u64 x 32 = x / 4294967296 := by simpa using shrK (x := x) 32 (by decide)
theorem sh16 {x : Int} : shrV .u64 x 16 = x / 65536 := by simpa using shrK (x := x) 16 (by decide)
theorem sh8 {x : Int} : shrV .u64 x 8 = x / 256 := by simpa using shrK (x := x) 8 (by decide)
theorem len64 (N : Nat) (h : N < 18446744073709551616) (L : Chunk) : Fn1 Tryz.prog 99 [.int .u64 (N : Int)] L (fun u L' => u = .int .i64 (bitsLen N : Nat) ∧ L = L') := by
  intro w0; refine Spec.enter1 Tryz.func99 rfl Tryz.ntmps99 (by decide) ?_
  by_cases c1 : 4294967296 ≤ N
  · have b1 : bitsLen N = 32 + bitsLen (N / 4294967296) := bl_shift (k := 32) c1
    obtain ⟨N1, hN1⟩ : ∃ r, N / 4294967296 = r := ⟨_, rfl⟩
    rw [hN1] at b1
    have hc : (N : Int) / 4294967296 = (N1 : Int) := by omega
    have z1 : ShN (N : Int) 32 (N1 : Int) := ⟨by rw [sh32, hc]⟩
    by_cases c2 : 65536 ≤ N1
    · have b2 : bitsLen N1 = 16 + bitsLen (N1 / 65536) := bl_shift (k := 16) c2
      obtain ⟨N2, hN2⟩ : ∃ r, N1 / 65536 = r := ⟨_, rfl⟩
      rw [hN2] at b2
      have hc2 : (N1 : Int) / 65536 = (N2 : Int) := by omega
      have z2 : ShN (N1 : Int) 16 (N2 : Int) := ⟨by rw [sh16, hc2]⟩
      by_cases c3 : 256 ≤ N2
      · have b3 : bitsLen N2 = 8 + bitsLen (N2 / 256) := bl_shift (k := 8) c3
        obtain ⟨N3, hN3⟩ : ∃ r, N2 / 256 = r := ⟨_, rfl⟩
        rw [hN3] at b3
        have hc3 : (N2 : Int) / 256 = (N3 : Int) := by omega
        have z3 : ShN (N2 : Int) 8 (N3 : Int) := ⟨by rw [sh8, hc3]⟩
        repeat' (first|refine Ga0 fun _=>?_|refine Ga1 ?_|refine Ga2 (fun _=>?_) fun _=>?_|refine Ga3 ?_|refine Ga4 fun _=>?_|fail)
        refine OW.ixLen (by decide +kernel) (by omega) (fun r hr hr8 => ?_)
        have hr' : r = bitsLen N3 := hr
        repeat' (first|refine Ga0 fun _=>?_|refine Ga1 ?_|refine Ga2 (fun _=>?_) fun _=>?_|refine Ga3 ?_|refine Ga4 fun _=>?_|fail)
        exact bodyK.retD L (Res.one Tryz.results99) ⟨by congr 1; omega, rfl⟩
      · repeat' (first|refine Ga0 fun _=>?_|refine Ga1 ?_|refine Ga2 (fun _=>?_) fun _=>?_|refine Ga3 ?_|refine Ga4 fun _=>?_|fail)
        refine OW.ixLen (by decide +kernel) (by omega) (fun r hr hr8 => ?_)
        have hr' : r = bitsLen N2 := hr
        repeat' (first|refine Ga0 fun _=>?_|refine Ga1 ?_|refine Ga2 (fun _=>?_) fun _=>?_|refine Ga3 ?_|refine Ga4 fun _=>?_|fail)
        exact bodyK.retD L (Res.one Tryz.results99) ⟨by congr 1; omega, rfl⟩
    · have b2 : bitsLen N1 = 0 + bitsLen N1 := by omega
      generalize hq2 : N1 = N2 at *
      by_cases c3 : 256 ≤ N2
      · have b3 : bitsLen N2 = 8 + bitsLen (N2 / 256) := bl_shift (k := 8) c3
        obtain ⟨N3, hN3⟩ : ∃ r, N2 / 256 = r := ⟨_, rfl⟩
        rw [hN3] at b3
        have hc3 : (N2 : Int) / 256 = (N3 : Int) := by omega
        have z3 : ShN (N2 : Int) 8 (N3 : Int) := ⟨by rw [sh8, hc3]⟩
        repeat' (first|refine Ga0 fun _=>?_|refine Ga1 ?_|refine Ga2 (fun _=>?_) fun _=>?_|refine Ga3 ?_|refine Ga4 fun _=>?_|fail)
        refine OW.ixLen (by decide +kernel) (by omega) (fun r hr hr8 => ?_)
        have hr' : r = bitsLen N3 := hr
        repeat' (first|refine Ga0 fun _=>?_|refine Ga1 ?_|refine Ga2 (fun _=>?_) fun _=>?_|refine Ga3 ?_|refine Ga4 fun _=>?_|fail)
        exact bodyK.retD L (Res.one Tryz.results99) ⟨by congr 1; omega, rfl⟩
      · repeat' (first|refine Ga0 fun _=>?_|refine Ga1 ?_|refine Ga2 (fun _=>?_) fun _=>?_|refine Ga3 ?_|refine Ga4 fun _=>?_|fail)
        refine OW.ixLen (by decide +kernel) (by omega) (fun r hr hr8 => ?_)
        have hr' : r = bitsLen N2 := hr
        repeat' (first|refine Ga0 fun _=>?_|refine Ga1 ?_|refine Ga2 (fun _=>?_) fun _=>?_|refine Ga3 ?_|refine Ga4 fun _=>?_|fail)
        exact bodyK.retD L (Res.one Tryz.results99) ⟨by congr 1; omega, rfl⟩
  · have b1 : bitsLen N = 0 + bitsLen N := by omega
    generalize hq : N = N1 at *
    by_cases c2 : 65536 ≤ N1
    · have b2 : bitsLen N1 = 16 + bitsLen (N1 / 65536) := bl_shift (k := 16) c2
      obtain ⟨N2, hN2⟩ : ∃ r, N1 / 65536 = r := ⟨_, rfl⟩
      rw [hN2] at b2
      have hc2 : (N1 : Int) / 65536 = (N2 : Int) := by omega
      have z2 : ShN (N1 : Int) 16 (N2 : Int) := ⟨by rw [sh16, hc2]⟩
      by_cases c3 : 256 ≤ N2
      · have b3 : bitsLen N2 = 8 + bitsLen (N2 / 256) := bl_shift (k := 8) c3
        obtain ⟨N3, hN3⟩ : ∃ r, N2 / 256 = r := ⟨_, rfl⟩
        rw [hN3] at b3
        have hc3 : (N2 : Int) / 256 = (N3 : Int) := by omega
        have z3 : ShN (N2 : Int) 8 (N3 : Int) := ⟨by rw [sh8, hc3]⟩
        repeat' (first|refine Ga0 fun _=>?_|refine Ga1 ?_|refine Ga2 (fun _=>?_) fun _=>?_|refine Ga3 ?_|refine Ga4 fun _=>?_|fail)
        refine OW.ixLen (by decide +kernel) (by omega) (fun r hr hr8 => ?_)
        have hr' : r = bitsLen N3 := hr
        repeat' (first|refine Ga0 fun _=>?_|refine Ga1 ?_|refine Ga2 (fun _=>?_) fun _=>?_|refine Ga3 ?_|refine Ga4 fun _=>?_|fail)
        exact bodyK.retD L (Res.one Tryz.results99) ⟨by congr 1; omega, rfl⟩
      · repeat' (first|refine Ga0 fun _=>?_|refine Ga1 ?_|refine Ga2 (fun _=>?_) fun _=>?_|refine Ga3 ?_|refine Ga4 fun _=>?_|fail)
        refine OW.ixLen (by decide +kernel) (by omega) (fun r hr hr8 => ?_)
        have hr' : r = bitsLen N2 := hr
        repeat' (first|refine Ga0 fun _=>?_|refine Ga1 ?_|refine Ga2 (fun _=>?_) fun _=>?_|refine Ga3 ?_|refine Ga4 fun _=>?_|fail)
        exact bodyK.retD L (Res.one Tryz.results99) ⟨by congr 1; omega, rfl⟩
    · have b2 : bitsLen N1 = 0 + bitsLen N1 := by omega
      generalize hq2 : N1 = N2 at *
      by_cases c3 : 256 ≤ N2
      · have b3 : bitsLen N2 = 8 + bitsLen (N2 / 256) := bl_shift (k := 8) c3
        obtain ⟨N3, hN3⟩ : ∃ r, N2 / 256 = r := ⟨_, rfl⟩
        rw [hN3] at b3
        have hc3 : (N2 : Int) / 256 = (N3 : Int) := by omega
        have z3 : ShN (N2 : Int) 8 (N3 : Int) := ⟨by rw [sh8, hc3]⟩
        repeat' (first|refine Ga0 fun _=>?_|refine Ga1 ?_|refine Ga2 (fun _=>?_) fun _=>?_|refine Ga3 ?_|refine Ga4 fun _=>?_|fail)
        refine OW.ixLen (by decide +kernel) (by omega) (fun r hr hr8 => ?_)
        have hr' : r = bitsLen N3 := hr
        repeat' (first|refine Ga0 fun _=>?_|refine Ga1 ?_|refine Ga2 (fun _=>?_) fun _=>?_|refine Ga3 ?_|refine Ga4 fun _=>?_|fail)
        exact bodyK.retD L (Res.one Tryz.results99) ⟨by congr 1; omega, rfl⟩
      · repeat' (first|refine Ga0 fun _=>?_|refine Ga1 ?_|refine Ga2 (fun _=>?_) fun _=>?_|refine Ga3 ?_|refine Ga4 fun _=>?_|fail)
        refine OW.ixLen (by decide +kernel) (by omega) (fun r hr hr8 => ?_)
        have hr' : r = bitsLen N2 := hr
        repeat' (first|refine Ga0 fun _=>?_|refine Ga1 ?_|refine Ga2 (fun _=>?_) fun _=>?_|refine Ga3 ?_|refine Ga4 fun _=>?_|fail)
        exact bodyK.retD L (Res.one Tryz.results99) ⟨by congr 1; omega, rfl⟩
end Go.Proofs.YtocjgcmgkaabiaaGreat

namespace Go.Proofs.YtocjgcmgkaabiaaGreat
open Go Go.Pw Go.Sort
set_option maxRecDepth 100000
set_option maxHeartbeats 4000000
set_option synthInstance.maxHeartbeats 400000
set_option synthInstance.maxSize 2000
attribute [local irreducible] CW OW RW thenK blockK
attribute [local irreducible] scopeK loopK TRW ATW

theorem bitsLen' (N : Nat) (h : N < 18446744073709551616) (L : Chunk) : Fn1 Tryz.prog 77 [.int .u64 (N : Int)] L (fun u L' => u = .int .i64 (bitsLen N : Nat) ∧ L = L') := by
  intro w0; refine Spec.enter1 Tryz.func77 rfl Tryz.ntmps77 (by decide) ?_
  repeat' (first|refine Ga0 fun _=>?_|refine Ga1 ?_|refine Ga2 (fun _=>?_) fun _=>?_|refine Ga3 ?_|refine Ga4 fun _=>?_|fail)
  refine OW.call (len64 N h _) ?_
  rintro _ _ ⟨rfl, rfl⟩
  repeat' (first|refine Ga0 fun _=>?_|refine Ga1 ?_|refine Ga2 (fun _=>?_) fun _=>?_|refine Ga3 ?_|refine Ga4 fun _=>?_|fail)
  exact bodyK.retD L (Res.one Tryz.results77) ⟨rfl, rfl⟩
theorem nextPow (N : Nat) (h : N < 4611686018427387904) (L : Chunk) : Fn1 Tryz.prog 114 [.int .i64 (N : Int)] L (fun u L' => u = .int .u64 ((1 <<< bitsLen N : Nat) : Int) ∧ L = L') := by
  intro w0; refine Spec.enter1 Tryz.func114 rfl Tryz.ntmps114 (by decide) ?_
  have hk : bitsLen N ≤ 62 := (bitsLen_le_iff N 62).2 (by omega)
  have e : shlV .u64 1 ((bitsLen N : Nat) : Int) = ((1 <<< bitsLen N : Nat) : Int) := by
    unfold shlV
    have e : min ((bitsLen N : Nat) : Int).toNat IntKind.u64.bits = bitsLen N := by
      have : ((bitsLen N : Nat) : Int).toNat = bitsLen N := by omega
      rw [this]; show min (bitsLen N) 64 = bitsLen N; omega
    have h2 : 2 ^ bitsLen N ≤ 2 ^ 62 := Nat.pow_le_pow_right (by decide) hk
    rw [e, Nat.shiftLeft_eq, Nat.one_mul, Int.one_mul, show (2 : Int) ^ bitsLen N = ((2 ^ bitsLen N : Nat) : Int) by simp]
    generalize 2 ^ bitsLen N = q at *
    rw [wrap_in (k := .u64) (by constructor <;> omega)]
  have nn : NN ((bitsLen N : Nat) : Int) := ⟨by omega⟩
  repeat' (first|refine Ga0 fun _=>?_|refine Ga1 ?_|refine Ga2 (fun _=>?_) fun _=>?_|refine Ga3 ?_|refine Ga4 fun _=>?_|fail)
  refine OW.call (bitsLen' N (by omega) _) ?_
  rintro _ _ ⟨rfl, rfl⟩
  repeat' (first|refine Ga0 fun _=>?_|refine Ga1 ?_|refine Ga2 (fun _=>?_) fun _=>?_|refine Ga3 ?_|refine Ga4 fun _=>?_|fail)
  rw [e]
  exact bodyK.retD L (Res.one Tryz.results114) ⟨rfl, rfl⟩
theorem xorNx (r : UInt64) (b : Nat) (L : Chunk) : Fn1 Tryz.prog 115 [.pointer (some ⟨b, 0, none⟩)] ((b, .cells #[.int .u64 (r.toNat : Int)] 171 (0, 0)) :: L)
    (fun u L' => u = .int .u64 ((xorNext r).toNat : Int) ∧ L' = (b, .cells #[.int .u64 ((xorNext r).toNat : Int)] 171 (0, 0)) :: L) := by
  intro w0; refine Spec.enter1 Tryz.func115 rfl Tryz.ntmps115 (by decide) ?_
  have e1 : ∀ r : UInt64, shlV .u64 (r.toNat : Int) 13 = ((r <<< 13).toNat : Int) := fun r => by simpa using shl_u64 r 13 (by decide)
  have e2 : ∀ r : UInt64, shrV .u64 (r.toNat : Int) 7 = ((r >>> 7).toNat : Int) := fun r => by simpa using shr_u64 r 7 (by decide)
  have e3 : ∀ r : UInt64, shlV .u64 (r.toNat : Int) 17 = ((r <<< 17).toNat : Int) := fun r => by simpa using shl_u64 r 17 (by decide)
  repeat' (first|refine Gi0 fun _=>?_|refine Gi1 ?_|refine CW.drawsSw (id := 1) [0, 1, 3, 4] [2, 5, 6, 7] 8 [9] mixed (by kernel_rfl) ?_|refine CW.drawsSw (id := 2) [0, 1, 3, 4] [2, 5, 6, 7] 8 [9] mixed (by kernel_rfl) ?_|refine CW.drawsSw (id := 3) [0, 1, 3, 4] [2, 5, 6, 7] 8 [9] mixed (by kernel_rfl) ?_|refine Gi2 (fun _=>?_) fun _=>?_|refine Gi3 ?_|refine Gi4 fun _=>?_|fail)
  simp only [e1, e2, e3, xor_u64]
  exact bodyK.ret (Res.one Tryz.results115) ⟨rfl, rfl⟩
end Go.Proofs.YtocjgcmgkaabiaaGreat

namespace Go.Proofs.YtocjgcmgkaabiaaGreat
open Go Go.Pw Go.Sort
set_option maxRecDepth 100000
set_option maxHeartbeats 4000000
set_option synthInstance.maxHeartbeats 400000
set_option synthInstance.maxSize 2000
attribute [local irreducible] CW OW RW thenK blockK
attribute [local irreducible] scopeK loopK TRW ATW

theorem breakStep_eq (lo l m : Nat) (st : UInt64 × Array Int) (idx : Nat) : breakStep lo l m st idx = (xorNext st.1, swp st.2 idx (lo + (if (xorNext st.1).toNat &&& (m - 1) ≥ l then ((xorNext st.1).toNat &&& (m - 1)) - l else (xorNext st.1).toNat &&& (m - 1)))) := rfl
def breakN (lo l m : Nat) : Nat → UInt64 × Array Int → Nat → UInt64 × Array Int
  | 0, st, _ => st
  | k + 1, st, idx => breakN lo l m k (breakStep lo l m st idx) (idx + 1)
theorem breakPatternsU (b cap m lo hi : Nat) (d : Array Int) (rest : List Value) (L : Chunk) (hd : Srt m d) (hlh : lo ≤ hi) (hhm : hi ≤ m) :
    Fn1 Tryz.prog 91 [.slice (some ⟨b, 0, none⟩) m cap, .int .i64 lo, .int .i64 hi] ((b, .cells (kvs .u32 d ++ rest).toArray 25 (0, 0)) :: L)
      (fun _ L' => L' = (b, .cells (kvs .u32 (breakPatterns d lo hi) ++ rest).toArray 25 (0, 0)) :: L) := by
  intro w0; refine Spec.enter3 Tryz.func91 rfl Tryz.ntmps91 (by decide) ?_
  have hml := hd.len
  obtain ⟨l, rfl⟩ : ∃ l, hi = lo + l := ⟨hi - lo, by omega⟩
  have hll : ((lo + l : Nat) : Int) - (lo : Int) = (l : Int) := by omega
  by_cases h8 : l ≥ 8
  · have hfin : breakPatterns d lo (lo + l) = (breakN lo l (1 <<< bitsLen l) 3 (UInt64.ofNat l, d) (lo + l / 4 * 2 - 1)).2 := by
      unfold breakPatterns
      rw [show lo + l - lo = l by omega, if_pos h8]
      rfl
    rw [hfin]
    have hu : (l : Int) = ((UInt64.ofNat l).toNat : Int) := by
      rw [UInt64.toNat_ofNat']
      omega
    have hm2 : (1 <<< bitsLen l) ≤ 2 * l ∧ 1 ≤ 1 <<< bitsLen l := by
      rw [Nat.shiftLeft_eq, Nat.one_mul]
      exact ⟨two_pow_bitsLen_le (by omega), Nat.one_le_two_pow⟩
    have hbl : bitsLen l ≤ 62 := (bitsLen_le_iff l 62).2 (by omega)
    have hmask : ∀ x : UInt64, bitsV .and .u64 (x.toNat : Int) (((1 <<< bitsLen l : Nat) : Int) - 1) = ((x.toNat &&& ((1 <<< bitsLen l) - 1) : Nat) : Int) := fun x => by
      have h1 : 1 <<< bitsLen l = 2 ^ bitsLen l := by rw [Nat.shiftLeft_eq, Nat.one_mul]
      have := mask_u64 x (bitsLen l) (by omega)
      rw [h1] at hm2 ⊢
      generalize 2 ^ bitsLen l = q at *
      rw [show ((q : Nat) : Int) - 1 = ((q - 1 : Nat) : Int) by omega]
      exact this
    generalize hM : 1 <<< bitsLen l = M at *
    repeat' (first|refine Gj0 fun _=>?_|refine Gj1 ?_|refine CW.drawsSw (id := 10) [0, 1, 2, 3, 4, 5, 6, 7, 8, 9, 10, 12, 13, 14] [11, 15] 16 [17, 18, 19] mixed (by kernel_rfl) ?_|refine Gj2 (fun _=>?_) fun _=>?_|refine Gj3 ?_|refine Gj4 fun _=>?_|fail)
    rename_i br
    rw [hll]
    refine OW.call (nextPow l (by omega) _) ?_
    rintro _ _ ⟨rfl, rfl⟩
    rw [hM]
    repeat' (first|refine Gj0 fun _=>?_|refine Gj1 ?_|refine CW.drawsSw (id := 10) [0, 1, 2, 3, 4, 5, 6, 7, 8, 9, 10, 12, 13, 14] [11, 15] 16 [17, 18, 19] mixed (by kernel_rfl) ?_|refine Gj2 (fun _=>?_) fun _=>?_|refine Gj3 ?_|refine Gj4 fun _=>?_|fail)
    rw [show (lo : Int) + (l : Int) / 4 * 2 - 1 = ((lo + l / 4 * 2 - 1 : Nat) : Int) by omega]
    refine CW.loop (fun k ρ ds L' => ds = [] ∧ (∃ (r : UInt64) (d' : Array Int) (idx : Nat), L' = (br, .cells #[.int .u64 (r.toNat : Int)] 171 (0, 0)) :: (b, .cells (kvs .u32 d' ++ rest).toArray 25 (0, 0)) :: L ∧ Srt m d' ∧ k ≤ 3 ∧ idx + k = lo + l / 4 * 2 + 2 ∧ breakN lo l M k (r, d') idx = breakN lo l M 3 (UInt64.ofNat l, d) (lo + l / 4 * 2 - 1) ∧ Ev ρ 9 (.int .i64 (idx : Int))) ∧ Ev ρ 0 (.slice (some ⟨b, 0, none⟩) m cap) ∧ Ev ρ 1 (.int .i64 lo) ∧ Ev ρ 6 (.int .i64 l) ∧ Ev ρ 7 (.pointer (some ⟨br, 0, none⟩)) ∧ Ev ρ 8 (.int .u64 (M : Int))) 3
      ⟨rfl, ⟨UInt64.ofNat l, d, lo + l / 4 * 2 - 1, by rw [← hu], hd, by omega, by omega, rfl, inferInstance⟩, inferInstance, inferInstance, inferInstance, inferInstance, inferInstance⟩ ?_
    rintro k ρ ds L' ⟨rfl, ⟨r, d', idx, rfl, hd', hk, hidx, hfn, e9⟩, e0, e1, e6, e7, e8⟩
    cases k with
    | zero =>
      repeat' (first|refine Gj0 fun _=>?_|refine Gj1 ?_|refine CW.drawsSw (id := 10) [0, 1, 2, 3, 4, 5, 6, 7, 8, 9, 10, 12, 13, 14] [11, 15] 16 [17, 18, 19] mixed (by kernel_rfl) ?_|refine Gj2 (fun _=>?_) fun _=>?_|refine Gj3 ?_|refine Gj4 fun _=>?_|fail)
      refine bodyK.nrmD ((b, .cells (kvs .u32 d' ++ rest).toArray 25 (0, 0)) :: L) (Res.zero Tryz.results91) ?_
      rw [← hfn]
      rfl
    | succ k =>
      have hlt : (idx : Int) ≤ (lo : Int) + (l : Int) / 4 * 2 + 1 := by omega
      rw [breakN, breakStep_eq] at hfn
      simp only at hfn
      have hr1 : (xorNext r).toNat &&& (M - 1) ≤ M - 1 := Nat.and_le_right
      obtain ⟨q, hq⟩ : ∃ q, (xorNext r).toNat &&& (M - 1) = q := ⟨_, rfl⟩
      rw [hq] at hr1 hfn
      have han : AnN ((xorNext r).toNat : Int) ((M : Int) - 1) (q : Int) := ⟨by rw [hmask, hq]⟩
      have l1 : LtS idx d'.size := ⟨by rw [hd'.size]; omega⟩
      by_cases hql : q ≥ l
      · rw [if_pos hql] at hfn
        have l2 : LtS (lo + (q - l)) d'.size := ⟨by rw [hd'.size]; omega⟩
        have t2 : ToN ((lo : Int) + ((q : Int) - (l : Int))) (lo + (q - l)) := ⟨by omega⟩
        repeat' (first|refine Gj0 fun _=>?_|refine Gj1 ?_|refine CW.drawsSw (id := 10) [0, 1, 2, 3, 4, 5, 6, 7, 8, 9, 10, 12, 13, 14] [11, 15] 16 [17, 18, 19] mixed (by kernel_rfl) ?_|refine Gj2 (fun _=>?_) fun _=>?_|refine Gj3 ?_|refine Gj4 fun _=>?_|fail)
        refine OW.call (xorNx r br _) ?_
        rintro _ _ ⟨rfl, rfl⟩
        repeat' (first|refine Gj0 fun _=>?_|refine Gj1 ?_|refine CW.drawsSw (id := 10) [0, 1, 2, 3, 4, 5, 6, 7, 8, 9, 10, 12, 13, 14] [11, 15] 16 [17, 18, 19] mixed (by kernel_rfl) ?_|refine Gj2 (fun _=>?_) fun _=>?_|refine Gj3 ?_|refine Gj4 fun _=>?_|fail)
        rw [show (idx : Int) + 1 = ((idx + 1 : Nat) : Int) by omega]
        exact ⟨k, by omega, rfl, ⟨_, _, idx + 1, rfl, hd'.swp _ _, by omega, by omega, hfn, inferInstance⟩, inferInstance, inferInstance, inferInstance, inferInstance, inferInstance⟩
      · rw [if_neg hql] at hfn
        have l2 : LtS (lo + q) d'.size := ⟨by rw [hd'.size]; omega⟩
        have t2 : ToN ((lo : Int) + (q : Int)) (lo + q) := ⟨by omega⟩
        repeat' (first|refine Gj0 fun _=>?_|refine Gj1 ?_|refine CW.drawsSw (id := 10) [0, 1, 2, 3, 4, 5, 6, 7, 8, 9, 10, 12, 13, 14] [11, 15] 16 [17, 18, 19] mixed (by kernel_rfl) ?_|refine Gj2 (fun _=>?_) fun _=>?_|refine Gj3 ?_|refine Gj4 fun _=>?_|fail)
        refine OW.call (xorNx r br _) ?_
        rintro _ _ ⟨rfl, rfl⟩
        repeat' (first|refine Gj0 fun _=>?_|refine Gj1 ?_|refine CW.drawsSw (id := 10) [0, 1, 2, 3, 4, 5, 6, 7, 8, 9, 10, 12, 13, 14] [11, 15] 16 [17, 18, 19] mixed (by kernel_rfl) ?_|refine Gj2 (fun _=>?_) fun _=>?_|refine Gj3 ?_|refine Gj4 fun _=>?_|fail)
        rw [show (idx : Int) + 1 = ((idx + 1 : Nat) : Int) by omega]
        exact ⟨k, by omega, rfl, ⟨_, _, idx + 1, rfl, hd'.swp _ _, by omega, by omega, hfn, inferInstance⟩, inferInstance, inferInstance, inferInstance, inferInstance, inferInstance⟩
  · have hfin : breakPatterns d lo (lo + l) = d := by
      unfold breakPatterns
      rw [show lo + l - lo = l by omega, if_neg h8]
    rw [hfin]
    repeat' (first|refine Gj0 fun _=>?_|refine Gj1 ?_|refine CW.drawsSw (id := 10) [0, 1, 2, 3, 4, 5, 6, 7, 8, 9, 10, 12, 13, 14] [11, 15] 16 [17, 18, 19] mixed (by kernel_rfl) ?_|refine Gj2 (fun _=>?_) fun _=>?_|refine Gj3 ?_|refine Gj4 fun _=>?_|fail)
    exact bodyK.nrm (Res.zero Tryz.results91) rfl
end Go.Proofs.YtocjgcmgkaabiaaGreat

namespace Go.Proofs.YtocjgcmgkaabiaaGreat
open Go Go.Pw Go.Sort
set_option maxRecDepth 100000
set_option maxHeartbeats 4000000
set_option synthInstance.maxHeartbeats 400000
set_option synthInstance.maxSize 2000
attribute [local irreducible] CW OW RW thenK blockK
attribute [local irreducible] scopeK loopK TRW ATW

theorem partEq_bound {lo hi : Nat} : ∀ (n i j : Nat) (d : Array Int), j + 1 - i ≤ n → lo < i → i ≤ hi → j < hi → lo < (partEqLoop ltInt lo i j d).1 ∧ (partEqLoop ltInt lo i j d).1 ≤ hi ∧ (partEqLoop ltInt lo i j d).2.size = d.size := by
  intro n
  induction n with
  | zero =>
    intro i j d hn h1 h2 h3
    rw [partEqLoop_two _ _ rfl rfl, up_end (by omega), if_pos (by have := scanDown_le (fun x => ltInt d[lo]! x) d i j; omega)]
    exact ⟨h1, h2, rfl⟩
  | succ n ih =>
    intro i j d hn h1 h2 h3
    obtain ⟨i2, e1⟩ : ∃ r, scanUp (fun x => !ltInt d[lo]! x) d j i = r := ⟨_, rfl⟩
    obtain ⟨j2, e2⟩ : ∃ r, scanDown (fun x => ltInt d[lo]! x) d i2 j = r := ⟨_, rfl⟩
    obtain ⟨u1, u2, _, _⟩ := scanUp_spec (fun x => !ltInt d[lo]! x) d j _ i rfl
    have w1 := scanDown_le (fun x => ltInt d[lo]! x) d i2 j
    rw [e1] at u1 u2
    rw [e2] at w1
    rw [partEqLoop_two i2 j2 e1 e2]
    have hi2 : i2 ≤ hi := by
      rcases Nat.lt_or_ge (j + 1) i with h | h
      · have := up_end (p := fun x => !ltInt d[lo]! x) (d := d) (j := j) (i := i) (by omega)
        omega
      · have := u2 h; omega
    split
    · exact ⟨by simp only; omega, hi2, rfl⟩
    · obtain ⟨r1, r2, r3⟩ := ih (i2 + 1) (j2 - 1) (swp d i2 j2) (by omega) (by omega) (by omega) (by omega)
      exact ⟨r1, r2, by rw [r3, size_swp]⟩
theorem partIns_size {lo hi m : Nat} : ∀ (s i : Nat) (d : Array Int), Srt m d → Srt m (partialIns ltInt lo hi s i d).1
  | 0, i, d, h => h
  | s + 1, i, d, h => by
    rw [pi_step rfl]
    split
    · exact h
    · split
      · exact h
      · apply partIns_size
        split
        · apply suS
          split
          · exact sdS (h.swp _ _)
          · exact h.swp _ _
        · split
          · exact sdS (h.swp _ _)
          · exact h.swp _ _
theorem permS {m a b : Nat} {d d' : Array Int} (h : Srt m d) (hp : PermIn a b d d') : Srt m d' := ⟨hp.1.trans h.size, h.len⟩

def pdqTail (d3 : Array Int) (a b limit pivot : Nat) (wb wp : Bool) : Array Int :=
  if a > 0 && !ltInt d3[a - 1]! d3[pivot]! then
    match partitionEqual ltInt d3 a b pivot with
    | (mid, d4) => if _h : a < mid ∧ mid ≤ b then pdq ltInt d4 mid b limit wb wp else d4
  else
    match partition ltInt d3 a b pivot with
    | (mid, alreadyPartitioned, d4) =>
      if _h : a ≤ mid ∧ mid < b then
        if mid - a < b - mid then
          pdq ltInt (pdq ltInt d4 a mid limit true true) (mid + 1) b limit (decide (mid - a ≥ (b - a) / 8)) alreadyPartitioned
        else
          pdq ltInt (pdq ltInt d4 (mid + 1) b limit true true) a mid limit (decide (b - mid ≥ (b - a) / 8)) alreadyPartitioned
      else d4
theorem pdq_small {d : Array Int} {a b limit : Nat} {wb wp : Bool} (h : b - a ≤ 12) : pdq ltInt d a b limit wb wp = insertionSort ltInt d a b := by rw [pdq]; rw [if_pos h]
theorem pdq_heap {d : Array Int} {a b : Nat} {wb wp : Bool} (h : ¬ b - a ≤ 12) : pdq ltInt d a b 0 wb wp = heapSort ltInt d a b := by rw [pdq]; rw [if_neg h, if_pos rfl]
theorem pdq_step {d : Array Int} {a b limit : Nat} {wb wp : Bool} (h : ¬ b - a ≤ 12) (h0 : ¬ limit = 0) {d1 d2 : Array Int} {limit1 pv c1 : Nat} {c2 hint : Hint} {pi1 : Array Int} {pi2 : Bool}
    (e1 : (if !wb then breakPatterns d a b else d) = d1) (e2 : (if !wb then limit - 1 else limit) = limit1) (e3 : choosePivot ltInt d1 a b = (c1, c2)) (e4 : (if c2 = .decreasing then reverseRange d1 a b else d1) = d2)
    (e5 : (if c2 = .decreasing then (b - 1) - (c1 - a) else c1) = pv) (e6 : (if c2 = .decreasing then Hint.increasing else c2) = hint) (e7 : (if wb && wp && hint = .increasing then partialInsertionSort ltInt d2 a b else (d2, false)) = (pi1, pi2)) :
    pdq ltInt d a b limit wb wp = if pi2 then pi1 else pdqTail pi1 a b limit1 pv wb wp := by
  rw [pdq, if_neg h, if_neg h0]
  simp only [e1, e2, e3, e4, e5, e6, e7]
  rfl
theorem tail_eq {d3 : Array Int} {a b limit pv mid : Nat} {wb wp : Bool} {d4 : Array Int} (h : (decide (a > 0) && !ltInt d3[a - 1]! d3[pv]!) = true) (e : partitionEqual ltInt d3 a b pv = (mid, d4)) (hm : a < mid ∧ mid ≤ b) :
    pdqTail d3 a b limit pv wb wp = pdq ltInt d4 mid b limit wb wp := by
  unfold pdqTail; rw [if_pos h, e]; simp only; rw [dif_pos hm]
theorem tail_part {d3 : Array Int} {a b limit pv mid : Nat} {wb wp ap : Bool} {d4 : Array Int} (h : ¬ (decide (a > 0) && !ltInt d3[a - 1]! d3[pv]!) = true) (e : partition ltInt d3 a b pv = (mid, ap, d4)) (hm : a ≤ mid ∧ mid < b) :
    pdqTail d3 a b limit pv wb wp = if mid - a < b - mid then pdq ltInt (pdq ltInt d4 a mid limit true true) (mid + 1) b limit (decide (mid - a ≥ (b - a) / 8)) ap
      else pdq ltInt (pdq ltInt d4 (mid + 1) b limit true true) a mid limit (decide (b - mid ≥ (b - a) / 8)) ap := by
  unfold pdqTail; rw [if_neg h, e]; simp only; rw [dif_pos hm]
end Go.Proofs.YtocjgcmgkaabiaaGreat

namespace Go.Proofs.YtocjgcmgkaabiaaGreat
open Go Go.Pw Go.Sort
set_option maxRecDepth 100000
set_option maxHeartbeats 4000000
set_option synthInstance.maxHeartbeats 400000
set_option synthInstance.maxSize 2000
attribute [local irreducible] CW OW RW thenK blockK
attribute [local irreducible] scopeK loopK TRW ATW

theorem pdqU (b cap m : Nat) (rest : List Value) : ∀ (n lo hi limit : Nat) (d : Array Int) (L : Chunk), hi - lo < n → lo ≤ hi → hi ≤ m → limit ≤ 1000 → Srt m d →
    Fn1 Tryz.prog 76 [.slice (some ⟨b, 0, none⟩) m cap, .int .i64 lo, .int .i64 hi, .int .i64 limit] ((b, .cells (kvs .u32 d ++ rest).toArray 25 (0, 0)) :: L)
      (fun _ L' => L' = (b, .cells (kvs .u32 (pdq ltInt d lo hi limit true true) ++ rest).toArray 25 (0, 0)) :: L ∧ Srt m (pdq ltInt d lo hi limit true true)) := by
  intro n
  induction n with
  | zero => intro lo hi limit d L h; omega
  | succ n ih =>
  intro lo hi limit d L hn hlh hhm hlim hd
  intro w0; refine Spec.enter4 Tryz.func76 rfl Tryz.ntmps76 (by decide) ?_
  have hml := hd.len
  repeat' (first|refine Gj1 ?_|refine CW.drawsP (id := 17) [0,1,2,3,4,5,6,7,8,9,10,11,12,13,14] mixed (by kernel_rfl) ?_|refine Gj2 (fun _=>?_) fun _=>?_|refine Gj3 ?_|refine Gj4 fun _=>?_|fail)
  refine CW.loop (fun k ρ ds L' => ds = [] ∧ (∃ lo' hi' lim' wb wp d', L' = (b, .cells (kvs .u32 d' ++ rest).toArray 25 (0, 0)) :: L ∧ Srt m d' ∧ lo' ≤ hi' ∧ hi' ≤ m ∧ hi' - lo' ≤ n ∧ lim' ≤ 1000 ∧ k = hi' - lo' ∧ pdq ltInt d' lo' hi' lim' wb wp = pdq ltInt d lo hi limit true true ∧
      Ev ρ 1 (.int .i64 (lo' : Int)) ∧ Ev ρ 2 (.int .i64 (hi' : Int)) ∧ Ev ρ 3 (.int .i64 (lim' : Int)) ∧ Ev ρ 8 (.bool wb) ∧ Ev ρ 9 (.bool wp)) ∧ Ev ρ 0 (.slice (some ⟨b, 0, none⟩) m cap)) (hi - lo)
    ⟨rfl, ⟨lo, hi, limit, true, true, d, rfl, hd, hlh, hhm, by omega, hlim, rfl, rfl, inferInstance, inferInstance, inferInstance, inferInstance, inferInstance⟩, inferInstance⟩ ?_
  clear hlh hhm hlim hd hn
  rintro k ρ ds L' ⟨rfl, ⟨lo', hi', lim', wb, wp, d', rfl, hd', hlh, hhm, hn, hlim, rfl, hfin, e1, e2, e3, e8, e9⟩, e0⟩
  by_cases h12 : hi' - lo' ≤ 12
  · rw [pdq_small h12] at hfin
    repeat' (first|refine Gj0 fun _=>?_|refine Gj1 ?_|refine CW.drawsP (id := 17) [0,1,2,3,4,5,6,7,8,9,10,11,12,13,14] mixed (by kernel_rfl) ?_|refine Gj2 (fun _=>?_) fun _=>?_|refine Gj3 ?_|refine Gj4 fun _=>?_|fail)
    refine OW.call (insertionSortU b cap m lo' hi' d' rest L hd' hlh hhm) ?_
    rintro _ _ rfl
    have hp := (insertionSort_holds (lt := ltInt) swo_ltInt d' lo' hi' hlh (by rw [hd'.size]; exact hhm)).1
    repeat' (first|refine Gj0 fun _=>?_|refine Gj1 ?_|refine CW.drawsP (id := 17) [0,1,2,3,4,5,6,7,8,9,10,11,12,13,14] mixed (by kernel_rfl) ?_|refine Gj2 (fun _=>?_) fun _=>?_|refine Gj3 ?_|refine Gj4 fun _=>?_|fail)
    exact bodyK.ret (Res.zero Tryz.results76) ⟨by rw [hfin], by rw [← hfin]; exact permS hd' hp⟩
  by_cases h0 : lim' = 0
  · subst h0
    rw [pdq_heap h12] at hfin
    repeat' (first|refine Gj0 fun _=>?_|refine Gj1 ?_|refine CW.drawsP (id := 17) [0,1,2,3,4,5,6,7,8,9,10,11,12,13,14] mixed (by kernel_rfl) ?_|refine Gj2 (fun _=>?_) fun _=>?_|refine Gj3 ?_|refine Gj4 fun _=>?_|fail)
    refine OW.call (heapSortU b cap m lo' hi' d' rest L hd' (by omega) hhm) ?_
    rintro _ _ rfl
    have hp := (heapSort_holds (lt := ltInt) swo_ltInt d' lo' hi' hlh (by rw [hd'.size]; exact hhm)).1
    repeat' (first|refine Gj0 fun _=>?_|refine Gj1 ?_|refine CW.drawsP (id := 17) [0,1,2,3,4,5,6,7,8,9,10,11,12,13,14] mixed (by kernel_rfl) ?_|refine Gj2 (fun _=>?_) fun _=>?_|refine Gj3 ?_|refine Gj4 fun _=>?_|fail)
    exact bodyK.ret (Res.zero Tryz.results76) ⟨by rw [hfin], by rw [← hfin]; exact permS hd' hp⟩
  -- what the patterns leave
  obtain ⟨d1, e41⟩ : ∃ r, (if !wb then breakPatterns d' lo' hi' else d') = r := ⟨_, rfl⟩
  obtain ⟨l1, e42⟩ : ∃ r, (if !wb then lim' - 1 else lim') = r := ⟨_, rfl⟩
  obtain ⟨⟨c1, c2⟩, e43⟩ : ∃ r, choosePivot ltInt d1 lo' hi' = r := ⟨_, rfl⟩
  obtain ⟨d2, e44⟩ : ∃ r, (if c2 = .decreasing then reverseRange d1 lo' hi' else d1) = r := ⟨_, rfl⟩
  obtain ⟨pv, e45⟩ : ∃ r, (if c2 = .decreasing then (hi' - 1) - (c1 - lo') else c1) = r := ⟨_, rfl⟩
  obtain ⟨hint, e46⟩ : ∃ r, (if c2 = .decreasing then Hint.increasing else c2) = r := ⟨_, rfl⟩
  obtain ⟨⟨p1, p2⟩, e47⟩ : ∃ r, (if wb && wp && hint = .increasing then partialInsertionSort ltInt d2 lo' hi' else (d2, false)) = r := ⟨_, rfl⟩
  rw [pdq_step h12 h0 e41 e42 e43 e44 e45 e46 e47] at hfin
  have hd1 : Srt m d1 := by
    rw [← e41]
    split
    · exact permS hd' (breakPatterns_holds d' lo' hi' hlh (by rw [hd'.size]; exact hhm))
    · exact hd'
  have hl1 : l1 ≤ 1000 := by rw [← e42]; split <;> omega
  have hcp := choosePivot_holds ltInt d1 lo' hi' (by omega)
  rw [e43] at hcp
  simp only at hcp
  have hd2 : Srt m d2 := by
    rw [← e44]
    split
    · exact permS hd1 (reverseRange_holds d1 lo' hi' hlh (by rw [hd1.size]; exact hhm))
    · exact hd1
  have hpv : lo' ≤ pv ∧ pv < hi' := by rw [← e45]; split <;> omega
  have hp1 : Srt m p1 := by
    have : Srt m (p1, p2).1 := by
      rw [← e47]
      split
      · exact partIns_size _ _ _ hd2
      · exact hd2
    exact this
  repeat' (first|refine Gj0 fun _=>?_|refine Gj1 ?_|refine CW.drawsP (id := 17) [0,1,2,3,4,5,6,7,8,9,10,11,12,13,14] mixed (by kernel_rfl) ?_|refine Gj2 (fun _=>?_) fun _=>?_|refine Gj3 ?_|refine Gj4 fun _=>?_|fail)
  refine CW.cut (fun ρ ds L' => ds = [] ∧ L' = (b, .cells (kvs .u32 d1 ++ rest).toArray 25 (0, 0)) :: L ∧ Ev ρ 3 (.int .i64 (l1 : Int)) ∧ Ev ρ 0 (.slice (some ⟨b, 0, none⟩) m cap) ∧ Ev ρ 1 (.int .i64 (lo' : Int)) ∧ Ev ρ 2 (.int .i64 (hi' : Int)) ∧ Ev ρ 8 (.bool wb) ∧ Ev ρ 9 (.bool wp) ∧ Ev ρ 10 (.int .i64 ((hi' : Int) - (lo' : Int)))) ?_ ?_
  · clear e0 e1 e2 e3 e8 e9
    rintro ρ ds L' ⟨rfl, rfl, e3, e0, e1, e2, e8, e9, e10⟩
    repeat' (first|refine Gj0 fun _=>?_|refine Gj1 ?_|refine CW.drawsP (id := 17) [0,1,2,3,4,5,6,7,8,9,10,11,12,13,14] mixed (by kernel_rfl) ?_|refine Gj2 (fun _=>?_) fun _=>?_|refine Gj3 ?_|refine Gj4 fun _=>?_|fail)
    have hcc := choosePivotU b cap m lo' hi' d1 rest ((b, .cells (kvs .u32 d1 ++ rest).toArray 25 (0, 0)) :: L) hd1 (by omega) hhm
    rw [e43] at hcc
    simp only at hcc
    refine OW.call hcc ?_
    rintro _ _ ⟨rfl, rfl⟩
    refine OW.cutK (fun ρ ds L' => ds = [] ∧ L' = (b, .cells (kvs .u32 d1 ++ rest).toArray 25 (0, 0)) :: L ∧ Ev ρ 11 (.int .i64 (c1 : Int)) ∧ Ev ρ 12 (.int .i64 (hintI c2)) ∧ Ev ρ 0 (.slice (some ⟨b, 0, none⟩) m cap) ∧ Ev ρ 1 (.int .i64 (lo' : Int)) ∧ Ev ρ 2 (.int .i64 (hi' : Int)) ∧ Ev ρ 3 (.int .i64 (l1 : Int)) ∧ Ev ρ 8 (.bool wb) ∧ Ev ρ 9 (.bool wp) ∧ Ev ρ 10 (.int .i64 ((hi' : Int) - (lo' : Int)))) ?_ ?_
    rotate_left
    · intro N hN
      repeat' (first|refine Gj0 fun _=>?_|refine Gj1 ?_|refine CW.drawsP (id := 17) [0,1,2,3,4,5,6,7,8,9,10,11,12,13,14] mixed (by kernel_rfl) ?_|refine Gj2 (fun _=>?_) fun _=>?_|refine Gj3 ?_|refine Gj4 fun _=>?_|fail)
      exact hN _ _ _ ⟨rfl, rfl, inferInstance, inferInstance, inferInstance, inferInstance, inferInstance, inferInstance, inferInstance, inferInstance, inferInstance⟩
    clear e0 e1 e2 e3 e8 e9 e10
    rintro ρ ds L' ⟨rfl, rfl, e11, e12, e0, e1, e2, e3, e8, e9, e10⟩
    refine CW.seq ?_
    refine CW.cut (fun ρ ds L' => ds = [] ∧ L' = (b, .cells (kvs .u32 d2 ++ rest).toArray 25 (0, 0)) :: L ∧ Ev ρ 11 (.int .i64 (pv : Int)) ∧ Ev ρ 12 (.int .i64 (hintI hint)) ∧ Ev ρ 0 (.slice (some ⟨b, 0, none⟩) m cap) ∧ Ev ρ 1 (.int .i64 (lo' : Int)) ∧ Ev ρ 2 (.int .i64 (hi' : Int)) ∧ Ev ρ 3 (.int .i64 (l1 : Int)) ∧ Ev ρ 8 (.bool wb) ∧ Ev ρ 9 (.bool wp) ∧ Ev ρ 10 (.int .i64 ((hi' : Int) - (lo' : Int)))) ?_ ?_
    rotate_left
    · cases c2 with
      | decreasing =>
        simp only [if_true] at e44 e45 e46
        simp only [hintI] at e12
        subst e44
        subst e46
        repeat' (first|refine Gj0 fun _=>?_|refine Gj1 ?_|refine CW.drawsP (id := 17) [0,1,2,3,4,5,6,7,8,9,10,11,12,13,14] mixed (by kernel_rfl) ?_|refine Gj2 (fun _=>?_) fun _=>?_|refine Gj3 ?_|refine Gj4 fun _=>?_|fail)
        refine OW.call (reverseRangeU b cap m lo' hi' d1 rest L hd1 (by omega) hhm) ?_
        rintro _ _ rfl
        repeat' (first|refine Gj0 fun _=>?_|refine Gj1 ?_|refine CW.drawsP (id := 17) [0,1,2,3,4,5,6,7,8,9,10,11,12,13,14] mixed (by kernel_rfl) ?_|refine Gj2 (fun _=>?_) fun _=>?_|refine Gj3 ?_|refine Gj4 fun _=>?_|fail)
        rw [show (hi' : Int) - 1 - ((c1 : Int) - (lo' : Int)) = (pv : Int) by omega]
        exact ⟨rfl, rfl, inferInstance, by show Ev _ 12 (.int .i64 1); infer_instance, inferInstance, inferInstance, inferInstance, inferInstance, inferInstance, inferInstance, inferInstance⟩
      | increasing =>
        rw [if_neg (by decide)] at e44 e45 e46
        simp only [hintI] at e12
        subst e44
        subst e45
        subst e46
        repeat' (first|refine Gj0 fun _=>?_|refine Gj1 ?_|refine CW.drawsP (id := 17) [0,1,2,3,4,5,6,7,8,9,10,11,12,13,14] mixed (by kernel_rfl) ?_|refine Gj2 (fun _=>?_) fun _=>?_|refine Gj3 ?_|refine Gj4 fun _=>?_|fail)
        exact ⟨rfl, rfl, inferInstance, by show Ev _ 12 (.int .i64 1); infer_instance, inferInstance, inferInstance, inferInstance, inferInstance, inferInstance, inferInstance, inferInstance⟩
      | unknown =>
        rw [if_neg (by decide)] at e44 e45 e46
        simp only [hintI] at e12
        subst e44
        subst e45
        subst e46
        repeat' (first|refine Gj0 fun _=>?_|refine Gj1 ?_|refine CW.drawsP (id := 17) [0,1,2,3,4,5,6,7,8,9,10,11,12,13,14] mixed (by kernel_rfl) ?_|refine Gj2 (fun _=>?_) fun _=>?_|refine Gj3 ?_|refine Gj4 fun _=>?_|fail)
        exact ⟨rfl, rfl, inferInstance, by show Ev _ 12 (.int .i64 0); infer_instance, inferInstance, inferInstance, inferInstance, inferInstance, inferInstance, inferInstance, inferInstance⟩
    clear e0 e1 e2 e3 e8 e9 e10 e11 e12
    rintro ρ ds L' ⟨rfl, rfl, e11, e12, e0, e1, e2, e3, e8, e9, e10⟩
    refine thenK_n ?_
    refine CW.seq ?_
    refine CW.cut (fun ρ ds L' => ds = [] ∧ L' = (b, .cells (kvs .u32 p1 ++ rest).toArray 25 (0, 0)) :: L ∧ p2 = false ∧ Ev ρ 11 (.int .i64 (pv : Int)) ∧ Ev ρ 0 (.slice (some ⟨b, 0, none⟩) m cap) ∧ Ev ρ 1 (.int .i64 (lo' : Int)) ∧ Ev ρ 2 (.int .i64 (hi' : Int)) ∧ Ev ρ 3 (.int .i64 (l1 : Int)) ∧ Ev ρ 8 (.bool wb) ∧ Ev ρ 9 (.bool wp) ∧ Ev ρ 10 (.int .i64 ((hi' : Int) - (lo' : Int)))) ?_ ?_
    rotate_left
    · have off : (wb && wp && decide (hint = .increasing)) = false → p1 = d2 ∧ p2 = false := fun h => by
        have h' : ¬ ((wb && wp && decide (hint = .increasing)) = true) := by rw [h]; simp
        rw [if_neg h'] at e47
        cases e47
        exact ⟨rfl, rfl⟩
      cases wb with
      | false =>
        obtain ⟨rfl, rfl⟩ := off (by simp)
        repeat' (first|refine Gj0 fun _=>?_|refine Gj1 ?_|refine CW.drawsP (id := 17) [0,1,2,3,4,5,6,7,8,9,10,11,12,13,14] mixed (by kernel_rfl) ?_|refine Gj2 (fun _=>?_) fun _=>?_|refine Gj3 ?_|refine Gj4 fun _=>?_|fail)
        exact ⟨rfl, rfl, rfl, inferInstance, inferInstance, inferInstance, inferInstance, inferInstance, inferInstance, inferInstance, inferInstance⟩
      | true =>
        cases wp with
        | false =>
          obtain ⟨rfl, rfl⟩ := off (by simp)
          repeat' (first|refine Gj0 fun _=>?_|refine Gj1 ?_|refine CW.drawsP (id := 17) [0,1,2,3,4,5,6,7,8,9,10,11,12,13,14] mixed (by kernel_rfl) ?_|refine Gj2 (fun _=>?_) fun _=>?_|refine Gj3 ?_|refine Gj4 fun _=>?_|fail)
          exact ⟨rfl, rfl, rfl, inferInstance, inferInstance, inferInstance, inferInstance, inferInstance, inferInstance, inferInstance, inferInstance⟩
        | true =>
          cases hint with
          | increasing =>
            rw [if_pos (by decide)] at e47
            simp only [hintI] at e12
            have hpc := partialInsU b cap m lo' hi' d2 rest L hd2 (by omega) hhm
            rw [e47] at hpc
            simp only at hpc
            repeat' (first|refine Gj0 fun _=>?_|refine Gj1 ?_|refine CW.drawsP (id := 17) [0,1,2,3,4,5,6,7,8,9,10,11,12,13,14] mixed (by kernel_rfl) ?_|refine Gj2 (fun _=>?_) fun _=>?_|refine Gj3 ?_|refine Gj4 fun _=>?_|fail)
            refine OW.call hpc ?_
            rintro _ _ ⟨rfl, rfl⟩
            cases p2 with
            | true =>
              repeat' (first|refine Gj0 fun _=>?_|refine Gj1 ?_|refine CW.drawsP (id := 17) [0,1,2,3,4,5,6,7,8,9,10,11,12,13,14] mixed (by kernel_rfl) ?_|refine Gj2 (fun _=>?_) fun _=>?_|refine Gj3 ?_|refine Gj4 fun _=>?_|fail)
              exact bodyK.ret (Res.zero Tryz.results76) ⟨by rw [← hfin, if_pos rfl], by rw [← hfin, if_pos rfl]; exact hp1⟩
            | false =>
              repeat' (first|refine Gj0 fun _=>?_|refine Gj1 ?_|refine CW.drawsP (id := 17) [0,1,2,3,4,5,6,7,8,9,10,11,12,13,14] mixed (by kernel_rfl) ?_|refine Gj2 (fun _=>?_) fun _=>?_|refine Gj3 ?_|refine Gj4 fun _=>?_|fail)
              exact ⟨rfl, rfl, rfl, inferInstance, inferInstance, inferInstance, inferInstance, inferInstance, inferInstance, inferInstance, inferInstance⟩
          | unknown =>
            obtain ⟨rfl, rfl⟩ := off (by decide)
            simp only [hintI] at e12
            repeat' (first|refine Gj0 fun _=>?_|refine Gj1 ?_|refine CW.drawsP (id := 17) [0,1,2,3,4,5,6,7,8,9,10,11,12,13,14] mixed (by kernel_rfl) ?_|refine Gj2 (fun _=>?_) fun _=>?_|refine Gj3 ?_|refine Gj4 fun _=>?_|fail)
            exact ⟨rfl, rfl, rfl, inferInstance, inferInstance, inferInstance, inferInstance, inferInstance, inferInstance, inferInstance, inferInstance⟩
          | decreasing =>
            obtain ⟨rfl, rfl⟩ := off (by decide)
            simp only [hintI] at e12
            repeat' (first|refine Gj0 fun _=>?_|refine Gj1 ?_|refine CW.drawsP (id := 17) [0,1,2,3,4,5,6,7,8,9,10,11,12,13,14] mixed (by kernel_rfl) ?_|refine Gj2 (fun _=>?_) fun _=>?_|refine Gj3 ?_|refine Gj4 fun _=>?_|fail)
            exact ⟨rfl, rfl, rfl, inferInstance, inferInstance, inferInstance, inferInstance, inferInstance, inferInstance, inferInstance, inferInstance⟩
    clear e0 e1 e2 e3 e8 e9 e10 e11 e12
    rintro ρ ds L' ⟨rfl, rfl, rfl, e11, e0, e1, e2, e3, e8, e9, e10⟩
    refine thenK_n ?_
    simp only [Bool.false_eq_true, if_false] at hfin
    clear e41 e42 e43 e44 e45 e46 e47
    have lpv : LtS pv p1.size := ⟨by rw [hp1.size]; omega⟩
    by_cases ha0 : 0 < lo'
    · have lla : LtS (lo' - 1) p1.size := ⟨by rw [hp1.size]; omega⟩
      have tla : ToN ((lo' : Int) - 1) (lo' - 1) := ⟨by omega⟩
      cases hc : ltInt p1[lo' - 1]! p1[pv]! with
      | false =>
        have htl : (decide (lo' > 0) && !ltInt p1[lo' - 1]! p1[pv]!) = true := by rw [hc, decide_eq_true ha0]; rfl
        have hpc := partitionEqualU b cap m lo' hi' pv p1 rest L hp1 hpv.1 hpv.2 hhm
        have hpb := partEq_bound (lo := lo') (hi := hi') _ (lo' + 1) (hi' - 1) (swp p1 lo' pv) (Nat.le_refl _) (by omega) (by omega) (by omega)
        rw [show partEqLoop ltInt lo' (lo' + 1) (hi' - 1) (swp p1 lo' pv) = partitionEqual ltInt p1 lo' hi' pv from rfl, size_swp] at hpb
        obtain ⟨⟨mid, d4⟩, ept⟩ : ∃ r, partitionEqual ltInt p1 lo' hi' pv = r := ⟨_, rfl⟩
        rw [ept] at hpb hpc
        simp only at hpb hpc
        rw [tail_eq htl ept ⟨hpb.1, hpb.2.1⟩] at hfin
        repeat' (first|refine Gj0 fun _=>?_|refine Gj1 ?_|refine CW.drawsP (id := 17) [0,1,2,3,4,5,6,7,8,9,10,11,12,13,14] mixed (by kernel_rfl) ?_|refine Gj2 (fun _=>?_) fun _=>?_|refine Gj3 ?_|refine Gj4 fun _=>?_|fail)
        refine RW.call (lessU _ _ _) ?_
        rintro _ _ ⟨rfl, rfl⟩
        refine pinAll ?_
        rw [hc]
        repeat' (first|refine Gj0 fun _=>?_|refine Gj1 ?_|refine CW.drawsP (id := 17) [0,1,2,3,4,5,6,7,8,9,10,11,12,13,14] mixed (by kernel_rfl) ?_|refine Gj2 (fun _=>?_) fun _=>?_|refine Gj3 ?_|refine Gj4 fun _=>?_|fail)
        refine OW.call hpc ?_
        rintro _ _ ⟨rfl, rfl⟩
        repeat' (first|refine Gj0 fun _=>?_|refine Gj1 ?_|refine CW.drawsP (id := 17) [0,1,2,3,4,5,6,7,8,9,10,11,12,13,14] mixed (by kernel_rfl) ?_|refine Gj2 (fun _=>?_) fun _=>?_|refine Gj3 ?_|refine Gj4 fun _=>?_|fail)
        exact ⟨hi' - mid, by omega, rfl, ⟨mid, hi', l1, wb, wp, d4, rfl, ⟨hpb.2.2.trans hp1.size, hml⟩, hpb.2.1, hhm, by omega, hl1, rfl, hfin, inferInstance, inferInstance, inferInstance, inferInstance, inferInstance⟩, inferInstance⟩
      | true =>
        have htl : ¬ (decide (lo' > 0) && !ltInt p1[lo' - 1]! p1[pv]!) = true := by rw [hc]; simp
        repeat' (first|refine Gj0 fun _=>?_|refine Gj1 ?_|refine CW.drawsP (id := 17) [0,1,2,3,4,5,6,7,8,9,10,11,12,13,14] mixed (by kernel_rfl) ?_|refine Gj2 (fun _=>?_) fun _=>?_|refine Gj3 ?_|refine Gj4 fun _=>?_|fail)
        refine RW.call (lessU _ _ _) ?_
        rintro _ _ ⟨rfl, rfl⟩
        refine pinAll ?_
        rw [hc]
        have hph := partition_holds ltInt swo_ltInt p1 lo' hi' pv hpv.1 hpv.2 (by rw [hp1.size]; exact hhm)
        have hpc := partitionU b cap m lo' hi' pv p1 rest L hp1 hpv.1 hpv.2 hhm
        obtain ⟨⟨mid, ap, d4⟩, ept⟩ : ∃ r, partition ltInt p1 lo' hi' pv = r := ⟨_, rfl⟩
        rw [ept] at hph hpc
        simp only at hph hpc
        have hd4 : Srt m d4 := permS hp1 hph.2.2.1
        obtain ⟨hm1, hm2, _⟩ := hph
        rw [tail_part htl ept ⟨hm1, hm2⟩] at hfin
        repeat' (first|refine Gj0 fun _=>?_|refine Gj1 ?_|refine CW.drawsP (id := 17) [0,1,2,3,4,5,6,7,8,9,10,11,12,13,14] mixed (by kernel_rfl) ?_|refine Gj2 (fun _=>?_) fun _=>?_|refine Gj3 ?_|refine Gj4 fun _=>?_|fail)
        refine OW.call hpc ?_
        rintro _ _ ⟨rfl, rfl⟩
        by_cases hsm : mid - lo' < hi' - mid
        · rw [if_pos hsm] at hfin
          by_cases hbal : mid - lo' ≥ (hi' - lo') / 8
          · rw [decide_eq_true hbal] at hfin
            repeat' (first|refine Gj0 fun _=>?_|refine Gj1 ?_|refine CW.drawsP (id := 17) [0,1,2,3,4,5,6,7,8,9,10,11,12,13,14] mixed (by kernel_rfl) ?_|refine Gj2 (fun _=>?_) fun _=>?_|refine Gj3 ?_|refine Gj4 fun _=>?_|fail)
            refine OW.call (ih lo' mid l1 d4 L (by omega) (by omega) (by omega) hl1 hd4) ?_
            rintro _ _ ⟨rfl, hS⟩
            repeat' (first|refine Gj0 fun _=>?_|refine Gj1 ?_|refine CW.drawsP (id := 17) [0,1,2,3,4,5,6,7,8,9,10,11,12,13,14] mixed (by kernel_rfl) ?_|refine Gj2 (fun _=>?_) fun _=>?_|refine Gj3 ?_|refine Gj4 fun _=>?_|fail)
            exact ⟨hi' - (mid + 1), by omega, rfl, ⟨mid + 1, hi', l1, true, ap, _, rfl, hS, by omega, hhm, by omega, hl1, rfl, hfin, by rw [show ((mid + 1 : Nat) : Int) = (mid : Int) + 1 by omega]; infer_instance, inferInstance, inferInstance, inferInstance, inferInstance⟩, inferInstance⟩
          · rw [decide_eq_false hbal] at hfin
            repeat' (first|refine Gj0 fun _=>?_|refine Gj1 ?_|refine CW.drawsP (id := 17) [0,1,2,3,4,5,6,7,8,9,10,11,12,13,14] mixed (by kernel_rfl) ?_|refine Gj2 (fun _=>?_) fun _=>?_|refine Gj3 ?_|refine Gj4 fun _=>?_|fail)
            refine OW.call (ih lo' mid l1 d4 L (by omega) (by omega) (by omega) hl1 hd4) ?_
            rintro _ _ ⟨rfl, hS⟩
            repeat' (first|refine Gj0 fun _=>?_|refine Gj1 ?_|refine CW.drawsP (id := 17) [0,1,2,3,4,5,6,7,8,9,10,11,12,13,14] mixed (by kernel_rfl) ?_|refine Gj2 (fun _=>?_) fun _=>?_|refine Gj3 ?_|refine Gj4 fun _=>?_|fail)
            exact ⟨hi' - (mid + 1), by omega, rfl, ⟨mid + 1, hi', l1, false, ap, _, rfl, hS, by omega, hhm, by omega, hl1, rfl, hfin, by rw [show ((mid + 1 : Nat) : Int) = (mid : Int) + 1 by omega]; infer_instance, inferInstance, inferInstance, inferInstance, inferInstance⟩, inferInstance⟩
        · rw [if_neg hsm] at hfin
          by_cases hbal : hi' - mid ≥ (hi' - lo') / 8
          · rw [decide_eq_true hbal] at hfin
            repeat' (first|refine Gj0 fun _=>?_|refine Gj1 ?_|refine CW.drawsP (id := 17) [0,1,2,3,4,5,6,7,8,9,10,11,12,13,14] mixed (by kernel_rfl) ?_|refine Gj2 (fun _=>?_) fun _=>?_|refine Gj3 ?_|refine Gj4 fun _=>?_|fail)
            rw [show (mid : Int) + 1 = ((mid + 1 : Nat) : Int) by omega]
            refine OW.call (ih (mid + 1) hi' l1 d4 L (by omega) (by omega) (by omega) hl1 hd4) ?_
            rintro _ _ ⟨rfl, hS⟩
            repeat' (first|refine Gj0 fun _=>?_|refine Gj1 ?_|refine CW.drawsP (id := 17) [0,1,2,3,4,5,6,7,8,9,10,11,12,13,14] mixed (by kernel_rfl) ?_|refine Gj2 (fun _=>?_) fun _=>?_|refine Gj3 ?_|refine Gj4 fun _=>?_|fail)
            exact ⟨mid - lo', by omega, rfl, ⟨lo', mid, l1, true, ap, _, rfl, hS, by omega, by omega, by omega, hl1, rfl, hfin, inferInstance, inferInstance, inferInstance, inferInstance, inferInstance⟩, inferInstance⟩
          · rw [decide_eq_false hbal] at hfin
            repeat' (first|refine Gj0 fun _=>?_|refine Gj1 ?_|refine CW.drawsP (id := 17) [0,1,2,3,4,5,6,7,8,9,10,11,12,13,14] mixed (by kernel_rfl) ?_|refine Gj2 (fun _=>?_) fun _=>?_|refine Gj3 ?_|refine Gj4 fun _=>?_|fail)
            rw [show (mid : Int) + 1 = ((mid + 1 : Nat) : Int) by omega]
            refine OW.call (ih (mid + 1) hi' l1 d4 L (by omega) (by omega) (by omega) hl1 hd4) ?_
            rintro _ _ ⟨rfl, hS⟩
            repeat' (first|refine Gj0 fun _=>?_|refine Gj1 ?_|refine CW.drawsP (id := 17) [0,1,2,3,4,5,6,7,8,9,10,11,12,13,14] mixed (by kernel_rfl) ?_|refine Gj2 (fun _=>?_) fun _=>?_|refine Gj3 ?_|refine Gj4 fun _=>?_|fail)
            exact ⟨mid - lo', by omega, rfl, ⟨lo', mid, l1, false, ap, _, rfl, hS, by omega, by omega, by omega, hl1, rfl, hfin, inferInstance, inferInstance, inferInstance, inferInstance, inferInstance⟩, inferInstance⟩
    · have htl : ¬ (decide (lo' > 0) && !ltInt p1[lo' - 1]! p1[pv]!) = true := by rw [decide_eq_false ha0]; simp
      have hph := partition_holds ltInt swo_ltInt p1 lo' hi' pv hpv.1 hpv.2 (by rw [hp1.size]; exact hhm)
      have hpc := partitionU b cap m lo' hi' pv p1 rest L hp1 hpv.1 hpv.2 hhm
      obtain ⟨⟨mid, ap, d4⟩, ept⟩ : ∃ r, partition ltInt p1 lo' hi' pv = r := ⟨_, rfl⟩
      rw [ept] at hph hpc
      simp only at hph hpc
      have hd4 : Srt m d4 := permS hp1 hph.2.2.1
      obtain ⟨hm1, hm2, _⟩ := hph
      rw [tail_part htl ept ⟨hm1, hm2⟩] at hfin
      repeat' (first|refine Gj0 fun _=>?_|refine Gj1 ?_|refine CW.drawsP (id := 17) [0,1,2,3,4,5,6,7,8,9,10,11,12,13,14] mixed (by kernel_rfl) ?_|refine Gj2 (fun _=>?_) fun _=>?_|refine Gj3 ?_|refine Gj4 fun _=>?_|fail)
      refine OW.call hpc ?_
      rintro _ _ ⟨rfl, rfl⟩
      by_cases hsm : mid - lo' < hi' - mid
      · rw [if_pos hsm] at hfin
        by_cases hbal : mid - lo' ≥ (hi' - lo') / 8
        · rw [decide_eq_true hbal] at hfin
          repeat' (first|refine Gj0 fun _=>?_|refine Gj1 ?_|refine CW.drawsP (id := 17) [0,1,2,3,4,5,6,7,8,9,10,11,12,13,14] mixed (by kernel_rfl) ?_|refine Gj2 (fun _=>?_) fun _=>?_|refine Gj3 ?_|refine Gj4 fun _=>?_|fail)
          refine OW.call (ih lo' mid l1 d4 L (by omega) (by omega) (by omega) hl1 hd4) ?_
          rintro _ _ ⟨rfl, hS⟩
          repeat' (first|refine Gj0 fun _=>?_|refine Gj1 ?_|refine CW.drawsP (id := 17) [0,1,2,3,4,5,6,7,8,9,10,11,12,13,14] mixed (by kernel_rfl) ?_|refine Gj2 (fun _=>?_) fun _=>?_|refine Gj3 ?_|refine Gj4 fun _=>?_|fail)
          exact ⟨hi' - (mid + 1), by omega, rfl, ⟨mid + 1, hi', l1, true, ap, _, rfl, hS, by omega, hhm, by omega, hl1, rfl, hfin, by rw [show ((mid + 1 : Nat) : Int) = (mid : Int) + 1 by omega]; infer_instance, inferInstance, inferInstance, inferInstance, inferInstance⟩, inferInstance⟩
        · rw [decide_eq_false hbal] at hfin
          repeat' (first|refine Gj0 fun _=>?_|refine Gj1 ?_|refine CW.drawsP (id := 17) [0,1,2,3,4,5,6,7,8,9,10,11,12,13,14] mixed (by kernel_rfl) ?_|refine Gj2 (fun _=>?_) fun _=>?_|refine Gj3 ?_|refine Gj4 fun _=>?_|fail)
          refine OW.call (ih lo' mid l1 d4 L (by omega) (by omega) (by omega) hl1 hd4) ?_
          rintro _ _ ⟨rfl, hS⟩
          repeat' (first|refine Gj0 fun _=>?_|refine Gj1 ?_|refine CW.drawsP (id := 17) [0,1,2,3,4,5,6,7,8,9,10,11,12,13,14] mixed (by kernel_rfl) ?_|refine Gj2 (fun _=>?_) fun _=>?_|refine Gj3 ?_|refine Gj4 fun _=>?_|fail)
          exact ⟨hi' - (mid + 1), by omega, rfl, ⟨mid + 1, hi', l1, false, ap, _, rfl, hS, by omega, hhm, by omega, hl1, rfl, hfin, by rw [show ((mid + 1 : Nat) : Int) = (mid : Int) + 1 by omega]; infer_instance, inferInstance, inferInstance, inferInstance, inferInstance⟩, inferInstance⟩
      · rw [if_neg hsm] at hfin
        by_cases hbal : hi' - mid ≥ (hi' - lo') / 8
        · rw [decide_eq_true hbal] at hfin
          repeat' (first|refine Gj0 fun _=>?_|refine Gj1 ?_|refine CW.drawsP (id := 17) [0,1,2,3,4,5,6,7,8,9,10,11,12,13,14] mixed (by kernel_rfl) ?_|refine Gj2 (fun _=>?_) fun _=>?_|refine Gj3 ?_|refine Gj4 fun _=>?_|fail)
          rw [show (mid : Int) + 1 = ((mid + 1 : Nat) : Int) by omega]
          refine OW.call (ih (mid + 1) hi' l1 d4 L (by omega) (by omega) (by omega) hl1 hd4) ?_
          rintro _ _ ⟨rfl, hS⟩
          repeat' (first|refine Gj0 fun _=>?_|refine Gj1 ?_|refine CW.drawsP (id := 17) [0,1,2,3,4,5,6,7,8,9,10,11,12,13,14] mixed (by kernel_rfl) ?_|refine Gj2 (fun _=>?_) fun _=>?_|refine Gj3 ?_|refine Gj4 fun _=>?_|fail)
          exact ⟨mid - lo', by omega, rfl, ⟨lo', mid, l1, true, ap, _, rfl, hS, by omega, by omega, by omega, hl1, rfl, hfin, inferInstance, inferInstance, inferInstance, inferInstance, inferInstance⟩, inferInstance⟩
        · rw [decide_eq_false hbal] at hfin
          repeat' (first|refine Gj0 fun _=>?_|refine Gj1 ?_|refine CW.drawsP (id := 17) [0,1,2,3,4,5,6,7,8,9,10,11,12,13,14] mixed (by kernel_rfl) ?_|refine Gj2 (fun _=>?_) fun _=>?_|refine Gj3 ?_|refine Gj4 fun _=>?_|fail)
          rw [show (mid : Int) + 1 = ((mid + 1 : Nat) : Int) by omega]
          refine OW.call (ih (mid + 1) hi' l1 d4 L (by omega) (by omega) (by omega) hl1 hd4) ?_
          rintro _ _ ⟨rfl, hS⟩
          repeat' (first|refine Gj0 fun _=>?_|refine Gj1 ?_|refine CW.drawsP (id := 17) [0,1,2,3,4,5,6,7,8,9,10,11,12,13,14] mixed (by kernel_rfl) ?_|refine Gj2 (fun _=>?_) fun _=>?_|refine Gj3 ?_|refine Gj4 fun _=>?_|fail)
          exact ⟨mid - lo', by omega, rfl, ⟨lo', mid, l1, false, ap, _, rfl, hS, by omega, by omega, by omega, hl1, rfl, hfin, inferInstance, inferInstance, inferInstance, inferInstance, inferInstance⟩, inferInstance⟩
  · cases wb with
    | true =>
      simp only [Bool.not_true, Bool.false_eq_true, if_false] at e41 e42
      subst e41
      subst e42
      repeat' (first|refine Gj0 fun _=>?_|refine Gj1 ?_|refine CW.drawsP (id := 17) [0,1,2,3,4,5,6,7,8,9,10,11,12,13,14] mixed (by kernel_rfl) ?_|refine Gj2 (fun _=>?_) fun _=>?_|refine Gj3 ?_|refine Gj4 fun _=>?_|fail)
      exact ⟨rfl, rfl, inferInstance, inferInstance, inferInstance, inferInstance, inferInstance, inferInstance, inferInstance⟩
    | false =>
      simp only [Bool.not_false, if_true] at e41 e42
      subst e41
      repeat' (first|refine Gj0 fun _=>?_|refine Gj1 ?_|refine CW.drawsP (id := 17) [0,1,2,3,4,5,6,7,8,9,10,11,12,13,14] mixed (by kernel_rfl) ?_|refine Gj2 (fun _=>?_) fun _=>?_|refine Gj3 ?_|refine Gj4 fun _=>?_|fail)
      refine OW.call (breakPatternsU b cap m lo' hi' d' rest L hd' hlh hhm) ?_
      rintro _ _ rfl
      repeat' (first|refine Gj0 fun _=>?_|refine Gj1 ?_|refine CW.drawsP (id := 17) [0,1,2,3,4,5,6,7,8,9,10,11,12,13,14] mixed (by kernel_rfl) ?_|refine Gj2 (fun _=>?_) fun _=>?_|refine Gj3 ?_|refine Gj4 fun _=>?_|fail)
      rw [show (lim' : Int) - 1 = (l1 : Int) by omega]
      exact ⟨rfl, rfl, inferInstance, inferInstance, inferInstance, inferInstance, inferInstance, inferInstance, inferInstance⟩
end Go.Proofs.YtocjgcmgkaabiaaGreat

namespace Go.Proofs.YtocjgcmgkaabiaaGreat
open Go Go.Pw Go.Sort
set_option maxRecDepth 100000
set_option maxHeartbeats 4000000
set_option synthInstance.maxHeartbeats 400000
set_option synthInstance.maxSize 2000
attribute [local irreducible] CW OW RW thenK blockK
attribute [local irreducible] scopeK loopK TRW ATW

theorem insNilU (L : Chunk) : Fn1 Tryz.prog 89 [.slice none 0 0, .int .i64 0, .int .i64 0] L (fun _ L' => L = L') := by
  intro w0; refine Spec.enter3 Tryz.func89 rfl Tryz.ntmps89 (by decide) ?_
  repeat' (first|refine Gi0 fun _=>?_|refine Gi1 ?_|refine CW.drawsP (id := 4) [0,1,2,3,4,5,6,7,8,9,10,11,12,13,14] mixed (by kernel_rfl) ?_|refine CW.drawsSw (id := 6) [0, 1, 2, 3, 4, 5, 6, 7, 8, 10, 11, 12] [9, 13] 14 [15, 16, 17] mixed (by kernel_rfl) ?_|refine Gi2 (fun _=>?_) fun _=>?_|refine Gi3 ?_|refine Gi4 fun _=>?_|fail)
  refine CW.loop (fun k ρ ds L' => ds = [] ∧ L' = L ∧ Ev ρ 6 (.int .i64 1) ∧ Ev ρ 0 (.slice none 0 0) ∧ Ev ρ 1 (.int .i64 0) ∧ Ev ρ 2 (.int .i64 0)) 0 ⟨rfl, rfl, inferInstance, inferInstance, inferInstance, inferInstance⟩ ?_
  rintro k ρ ds L' ⟨rfl, rfl, e6, e0, e1, e2⟩
  repeat' (first|refine Gi0 fun _=>?_|refine Gi1 ?_|refine CW.drawsP (id := 4) [0,1,2,3,4,5,6,7,8,9,10,11,12,13,14] mixed (by kernel_rfl) ?_|refine CW.drawsSw (id := 6) [0, 1, 2, 3, 4, 5, 6, 7, 8, 10, 11, 12] [9, 13] 14 [15, 16, 17] mixed (by kernel_rfl) ?_|refine Gi2 (fun _=>?_) fun _=>?_|refine Gi3 ?_|refine Gi4 fun _=>?_|fail)
  exact bodyK.nrm (Res.zero Tryz.results89) rfl
theorem pdqNilU (lim : Nat) (L : Chunk) : Fn1 Tryz.prog 76 [.slice none 0 0, .int .i64 0, .int .i64 0, .int .i64 lim] L (fun _ L' => L = L') := by
  intro w0; refine Spec.enter4 Tryz.func76 rfl Tryz.ntmps76 (by decide) ?_
  repeat' (first|refine Gj0 fun _=>?_|refine Gj1 ?_|refine CW.drawsP (id := 17) [0,1,2,3,4,5,6,7,8,9,10,11,12,13,14] mixed (by kernel_rfl) ?_|refine Gj2 (fun _=>?_) fun _=>?_|refine Gj3 ?_|refine Gj4 fun _=>?_|fail)
  refine CW.loop (fun k ρ ds L' => ds = [] ∧ L' = L ∧ Ev ρ 0 (.slice none 0 0) ∧ Ev ρ 1 (.int .i64 0) ∧ Ev ρ 2 (.int .i64 0)) 0 ⟨rfl, rfl, inferInstance, inferInstance, inferInstance⟩ ?_
  rintro k ρ ds L' ⟨rfl, rfl, e0, e1, e2⟩
  repeat' (first|refine Gj0 fun _=>?_|refine Gj1 ?_|refine CW.drawsP (id := 17) [0,1,2,3,4,5,6,7,8,9,10,11,12,13,14] mixed (by kernel_rfl) ?_|refine Gj2 (fun _=>?_) fun _=>?_|refine Gj3 ?_|refine Gj4 fun _=>?_|fail)
  refine OW.call (insNilU _) ?_
  rintro _ _ rfl
  repeat' (first|refine Gj0 fun _=>?_|refine Gj1 ?_|refine CW.drawsP (id := 17) [0,1,2,3,4,5,6,7,8,9,10,11,12,13,14] mixed (by kernel_rfl) ?_|refine Gj2 (fun _=>?_) fun _=>?_|refine Gj3 ?_|refine Gj4 fun _=>?_|fail)
  exact bodyK.ret (Res.zero Tryz.results76) rfl
theorem sortU (zs : List Int) (u : Value) (N L : Chunk) (hrow : Row 25 1 N u zs.length (zs.map (Value.int .u32))) (hl : zs.length < 4611686018427387904) :
    Fn1 Tryz.prog 58 [u] (N ++ L) (fun _ L' => ∃ N', L' = N' ++ L ∧ Row 25 1 N' u zs.length ((zs.mergeSort fun x y => decide (x ≤ y)).map (Value.int .u32))) := by
  have hbl : bitsLen zs.length ≤ 62 := (bitsLen_le_iff _ 62).2 (by omega)
  rcases hrow.2 with ⟨rfl, h0, rfl⟩ | ⟨b, cap, rest, rfl, rfl, hcap, hrl⟩
  · obtain rfl : zs = [] := List.eq_nil_of_length_eq_zero h0
    intro w0; refine Spec.enter1 Tryz.func58 rfl Tryz.ntmps58 (by decide) ?_
    repeat' (first|refine Ga0 fun _=>?_|refine Ga1 ?_|refine Ga2 (fun _=>?_) fun _=>?_|refine Ga3 ?_|refine Ga4 fun _=>?_|fail)
    refine OW.call (bitsLen' 0 (by decide) _) ?_
    rintro _ _ ⟨rfl, rfl⟩
    repeat' (first|refine Ga0 fun _=>?_|refine Ga1 ?_|refine Ga2 (fun _=>?_) fun _=>?_|refine Ga3 ?_|refine Ga4 fun _=>?_|fail)
    refine OW.call (pdqNilU _ _) ?_
    rintro _ _ rfl
    repeat' (first|refine Ga0 fun _=>?_|refine Ga1 ?_|refine Ga2 (fun _=>?_) fun _=>?_|refine Ga3 ?_|refine Ga4 fun _=>?_|fail)
    exact bodyK.nrm (Res.zero Tryz.results58) ⟨[], rfl, by simpa using hrow⟩
  · intro w0; refine Spec.enter1 Tryz.func58 rfl Tryz.ntmps58 (by decide) ?_
    have hS : Srt zs.length zs.toArray := ⟨by simp, hl⟩
    have hp := pdqU b cap zs.length rest (zs.length + 1) 0 zs.length (bitsLen zs.length) zs.toArray L (by omega) (by omega) (Nat.le_refl _) (by omega) hS
    have hsrt : pdq ltInt zs.toArray 0 zs.length (bitsLen zs.length) true true = (zs.mergeSort fun x y => decide (x ≤ y)).toArray := by
      have := sortInt zs
      unfold Sort.sort at this
      simp only [List.size_toArray] at this
      rw [← this]
    rw [hsrt] at hp
    have hk1 : kvs .u32 zs.toArray = zs.map (Value.int .u32) := rfl
    have hk2 : kvs .u32 (zs.mergeSort fun x y => decide (x ≤ y)).toArray = (zs.mergeSort fun x y => decide (x ≤ y)).map (Value.int .u32) := rfl
    rw [hk1, hk2] at hp
    repeat' (first|refine Ga0 fun _=>?_|refine Ga1 ?_|refine Ga2 (fun _=>?_) fun _=>?_|refine Ga3 ?_|refine Ga4 fun _=>?_|fail)
    refine OW.call (bitsLen' zs.length (by omega) _) ?_
    rintro _ _ ⟨rfl, rfl⟩
    repeat' (first|refine Ga0 fun _=>?_|refine Ga1 ?_|refine Ga2 (fun _=>?_) fun _=>?_|refine Ga3 ?_|refine Ga4 fun _=>?_|fail)
    refine OW.call hp ?_
    rintro _ _ ⟨rfl, _⟩
    repeat' (first|refine Ga0 fun _=>?_|refine Ga1 ?_|refine Ga2 (fun _=>?_) fun _=>?_|refine Ga3 ?_|refine Ga4 fun _=>?_|fail)
    refine bodyK.nrm (Res.zero Tryz.results58) ⟨[_], rfl, ⟨by simp, .inr ⟨b, cap, rest, rfl, rfl, hcap, ?_⟩⟩⟩
    simpa using hrl
end Go.Proofs.YtocjgcmgkaabiaaGreat
