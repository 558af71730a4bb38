/- OrderCalls: true for every input; arguments as before. Part 31. Conditions: none. -/
import Derived.Test.YtmnhooepaemlcaaGreatOC2
import Derived.Test.YtmnhooepaemlcaaGreatOC9
set_option linter.all false
namespace Go.Proofs.YtmnhooepaemlcaaGreat
open Go Go.Pw Go.Pw.Sc Go.Pw.Md
set_option maxRecDepth 100000
set_option maxHeartbeats 4000000
set_option synthInstance.maxHeartbeats 400000
set_option synthInstance.maxSize 2000
attribute [local irreducible] CW OW RW thenK blockK
attribute [local irreducible] scopeK loopK TRW ATW
@[reducible] def ndV (x : NeedM) : Value := .agg #[.bool x.small, .int .i64 x.cls, .int .i64 x.pages, .int .i64 x.charge]
theorem rFits (m : Mod) (v : Value) (nd : NeedM) (mult ad : Int) (hm : 1 ≤ mult ∧ mult ≤ 256) (ha : inR .u32 ad) (hc : 1 ≤ nd.charge ∧ nd.charge ≤ 262144) (L : Chunk) (hl : RL L v m.L) (hok : ∀ p ∈ m.L, PcOk p) :
  Fn1 Tryz.prog 162 [mV m v, ndV nd, .int .u64 mult, .int .u32 ad] L (fun u L' => u = .bool (decide (fitsP m.slot m.L nd mult ad)) ∧ L = L') := by
 obtain ⟨small, cls, pages, charge⟩ := nd
 obtain ⟨m1, m2⟩ := hm
 obtain ⟨a1, a2⟩ := ha
 obtain ⟨g1, g2⟩ := hc
 simp only at g1 g2
 have hn := hl.len
 obtain ⟨av, cv, rfl⟩ := hl.slice
 show Fn1 _ _ [mV m (.slice av m.L.length cv), .agg #[.bool small, .int .i64 cls, .int .i64 pages, .int .i64 charge], .int .u64 mult, .int .u32 ad] L _
 intro w0; refine Spec.enter4 Tryz.func162 rfl Tryz.ntmps162 (by decide) ?_
 have no : ¬ fitsP m.slot m.L ⟨small, cls, pages, charge⟩ mult ad → decide (fitsP m.slot m.L ⟨small, cls, pages, charge⟩ mult ad) = false := fun h => decide_eq_false h
 by_cases c1 : ad % 16 = 0
 ·by_cases c2 : ad % mult = 0
  ·by_cases c3 : ad + charge ≤ 16777216
   ·repeat' (first|refine Gb0 fun _=>?_|refine Gb1 ?_|refine Gb2 (fun _=>?_) fun _=>?_|refine Gb3 ?_|refine Gb4 fun _=>?_|fail)
    rename_i b4 b5
    have hpn : ∃ N : Nat, pagesN ad charge = N ∧ (N : Int) = (ad + charge - 1) / 256 - ad / 256 + 1 := ⟨_, rfl, by unfold pagesN; omega⟩
    obtain ⟨N, hN, hN2⟩ := hpn
    refine CW.count N (fun i ρ ds L' => ds = [] ∧ (∃ X, L' = X ++ ((b5, .cells #[.bool small, .int .i64 cls, .int .i64 pages, .int .i64 charge] 232 (0, 0)) :: (b4, .cells #[.int .i64 m.slot, .int .i64 m.quota, .slice av m.L.length cv] 72 (0, 0)) :: L)) ∧ (∀ t : Nat, t < i → site (ad / 256 + t) = (if small then 2 else 3, m.slot)) ∧
     Ev ρ 3 (.int .u32 ad) ∧ Ev ρ 4 (.pointer (some ⟨b4, 0, none⟩)) ∧ Ev ρ 5 (.pointer (some ⟨b5, 0, none⟩)) ∧ Ev ρ 9 (.int .i64 (ad / 256 + (i : Int)))) ⟨rfl, ⟨[], rfl⟩, fun t h => by omega, ii, ii, ii, by rw [Int.natCast_zero, Int.add_zero]; infer_instance⟩ ?_
    rintro i ρ ds L' hi ⟨rfl, ⟨X, rfl⟩, hg, e3, e4, e5, e9⟩
    by_cases hlt : i < N
    ·have hr : 0 ≤ ad / 256 + (i : Int) ∧ ad / 256 + (i : Int) < 65536 := by omega
     have bad : site (ad / 256 + (i : Int)) ≠ (if small then 2 else 3, m.slot) → ¬ fitsP m.slot m.L ⟨small, cls, pages, charge⟩ mult ad := fun h hf => h (hf.2.2.2.1 i (by rw [hN]; exact hlt))
     have good : site (ad / 256 + (i : Int)) = (if small then 2 else 3, m.slot) → ∀ t : Nat, t < i + 1 → site (ad / 256 + t) = (if small then 2 else 3, m.slot) := fun h => all_step hg h
     have hle : ad / 256 + (i : Int) ≤ (ad + charge - 1) / 256 := by omega
     have hnx : ad / 256 + (i : Int) + 1 = ad / 256 + ((i + 1 : Nat) : Int) := by omega
     rw [← hnx]
     have hi2 : (i : Int) < N := by omega
     clear hg hN hN2 hnx
     generalize ad / 256 + (i : Int) = pg at *
     obtain ⟨r1, r2⟩ := hr
     repeat' (first|refine Gb0 fun _=>?_|refine Gb1 ?_|refine Gb2 (fun _=>?_) fun _=>?_|refine Gb3 ?_|refine Gb4 fun _=>?_|fail)
     refine OW.call (rSite pg ⟨r1, r2⟩ _) ?_
     rintro _ _ ⟨⟨c, q, rfl⟩, rfl⟩
     generalize site pg = st at *
     obtain ⟨k, sl⟩ := st
     simp only at bad good ⊢
     by_cases d1 : sl = m.slot
     ·subst d1
      cases small with
      | true =>
       by_cases d2 : k = 2
       ·have hgd := good (by rw [d2]; rfl)
        clear bad good
        repeat' (first|refine Gb0 fun _=>?_|refine Gb1 ?_|refine Gb2 (fun _=>?_) fun _=>?_|refine Gb3 ?_|refine Gb4 fun _=>?_|fail)
        exact ⟨hlt, rfl, ⟨_ :: X, rfl⟩, hgd, ii, ii, ii, ii⟩
       ·rw [no (bad fun h => d2 (by simpa using h))]
        clear bad good
        repeat' (first|refine Gb0 fun _=>?_|refine Gb1 ?_|refine Gb2 (fun _=>?_) fun _=>?_|refine Gb3 ?_|refine Gb4 fun _=>?_|fail)
        exact bodyK.retD L (Res.one Tryz.results162) ⟨rfl, rfl⟩
      | false =>
       by_cases d2 : k = 3
       ·have hgd := good (by rw [d2]; rfl)
        clear bad good
        repeat' (first|refine Gb0 fun _=>?_|refine Gb1 ?_|refine Gb2 (fun _=>?_) fun _=>?_|refine Gb3 ?_|refine Gb4 fun _=>?_|fail)
        exact ⟨hlt, rfl, ⟨_ :: X, rfl⟩, hgd, ii, ii, ii, ii⟩
       ·rw [no (bad fun h => d2 (by simpa using h))]
        clear bad good
        repeat' (first|refine Gb0 fun _=>?_|refine Gb1 ?_|refine Gb2 (fun _=>?_) fun _=>?_|refine Gb3 ?_|refine Gb4 fun _=>?_|fail)
        exact bodyK.retD L (Res.one Tryz.results162) ⟨rfl, rfl⟩
     ·rw [no (bad fun h => d1 (by simpa using congrArg Prod.snd h))]
      clear bad good
      repeat' (first|refine Gb0 fun _=>?_|refine Gb1 ?_|refine Gb2 (fun _=>?_) fun _=>?_|refine Gb3 ?_|refine Gb4 fun _=>?_|fail)
      exact bodyK.retD L (Res.one Tryz.results162) ⟨rfl, rfl⟩
    ·obtain rfl : i = N := by omega
     have hpages : ∀ t : Nat, t < pagesN ad charge → site (ad / 256 + t) = (if small then 2 else 3, m.slot) := fun t h => hg t (by rw [hN] at h; exact h)
     have hle : ¬ ad / 256 + (i : Int) ≤ (ad + charge - 1) / 256 := by omega
     clear hg
     generalize ad / 256 + (i : Int) = pg at *
     repeat' (first|refine Gb0 fun _=>?_|refine Gb1 ?_|refine Gb2 (fun _=>?_) fun _=>?_|refine Gb3 ?_|refine Gb4 fun _=>?_|fail)
     refine CW.count m.L.length (fun i ρ ds L' => ds = [] ∧ L' = X ++ ((b5, .cells #[.bool small, .int .i64 cls, .int .i64 pages, .int .i64 charge] 232 (0, 0)) :: (b4, .cells #[.int .i64 m.slot, .int .i64 m.quota, .slice av m.L.length cv] 72 (0, 0)) :: L) ∧ (∀ p ∈ m.L.take i, ¬ (ad < p.ad + p.room ∧ p.ad < ad + charge)) ∧
      Ev ρ 3 (.int .u32 ad) ∧ Ev ρ 4 (.pointer (some ⟨b4, 0, none⟩)) ∧ Ev ρ 5 (.pointer (some ⟨b5, 0, none⟩)) ∧ Ev ρ 12 (.int .i64 (i : Int))) ⟨rfl, rfl, by simp, ii, ii, ii, ii⟩ ?_
     clear e3 e4 e5 e9
     rintro j ρ ds L' hj ⟨rfl, rfl, hg, e3, e4, e5, e12⟩
     by_cases hjl : j < m.L.length
     ·obtain ⟨bk, kk, capk, lk, ek, frk, hbe, hbin, hbc, hbn⟩ := hl.open (by omega)
      cases hbe
      obtain ⟨cc, hcut, vq, rfl, hrd⟩ := hbn j hjl
      have sq := hrd.sng
      obtain ⟨n0, n1, n2, n3⟩ := cut4 hcut
      have okp := hok _ (List.getElem_mem hjl)
      have o1 := okp.ad
      have o2 := okp.room
      have o3 := okp.fin
      have hts := take_step hjl
      have bad : ad < m.L[j].ad + m.L[j].room ∧ m.L[j].ad < ad + charge → ¬ fitsP m.slot m.L ⟨small, cls, pages, charge⟩ mult ad := fun h hf => hf.2.2.2.2 _ (List.getElem_mem hjl) h
      have htk : ¬ (ad < m.L[j].ad + m.L[j].room ∧ m.L[j].ad < ad + charge) → ∀ p ∈ m.L.take (j + 1), ¬ (ad < p.ad + p.room ∧ p.ad < ad + charge) := fun h p hp => by
       rw [hts] at hp
       rcases List.mem_append.1 hp with hp | hp
       ·exact hg p hp
       ·rw [List.mem_singleton.1 hp]; exact h
      clear okp hpages
      generalize m.L[j] = q at *
      by_cases d : ad < q.ad + q.room ∧ q.ad < ad + charge
      ·rw [no (bad d)]
       obtain ⟨d1, d2⟩ := d
       clear bad htk
       repeat' (first|refine Gb0 fun _=>?_|refine Gb1 ?_|refine Gb2 (fun _=>?_) fun _=>?_|refine Gb3 ?_|refine Gb4 fun _=>?_|fail)
       exact bodyK.retD L (Res.one Tryz.results162) ⟨rfl, rfl⟩
      ·have hh := htk d
       clear bad htk
       repeat' (first|refine Gb0 fun _=>?_|refine Gb1 ?_|refine Gb2 (fun _=>?_) fun _=>?_|refine Gb3 ?_|refine Gb4 fun _=>?_|fail)
       all_goals exact ⟨hjl, rfl, rfl, hh, ii, ii, ii, by rw [Int.natCast_add]; infer_instance⟩
     ·obtain rfl : j = m.L.length := by omega
      rw [List.take_length] at hg
      have hyes : fitsP m.slot m.L ⟨small, cls, pages, charge⟩ mult ad := ⟨c1, c2, c3, hpages, hg⟩
      rw [decide_eq_true hyes]
      clear hyes hg hpages
      repeat' (first|refine Gb0 fun _=>?_|refine Gb1 ?_|refine Gb2 (fun _=>?_) fun _=>?_|refine Gb3 ?_|refine Gb4 fun _=>?_|fail)
      exact bodyK.retD L (Res.one Tryz.results162) ⟨rfl, rfl⟩
   ·rw [no fun h => c3 h.2.2.1]
    repeat' (first|refine Gb0 fun _=>?_|refine Gb1 ?_|refine Gb2 (fun _=>?_) fun _=>?_|refine Gb3 ?_|refine Gb4 fun _=>?_|fail)
    exact bodyK.retD L (Res.one Tryz.results162) ⟨rfl, rfl⟩
  ·rw [no fun h => c2 h.2.1]
   repeat' (first|refine Gb0 fun _=>?_|refine Gb1 ?_|refine Gb2 (fun _=>?_) fun _=>?_|refine Gb3 ?_|refine Gb4 fun _=>?_|fail)
   exact bodyK.retD L (Res.one Tryz.results162) ⟨rfl, rfl⟩
 ·rw [no fun h => c1 h.1]
  repeat' (first|refine Gb0 fun _=>?_|refine Gb1 ?_|refine Gb2 (fun _=>?_) fun _=>?_|refine Gb3 ?_|refine Gb4 fun _=>?_|fail)
  exact bodyK.retD L (Res.one Tryz.results162) ⟨rfl, rfl⟩
theorem pow_le {i j : Nat} (h : i ≤ j) : (2 : Int) ^ i ≤ 2 ^ j := by
 obtain ⟨k, rfl⟩ := Nat.exists_eq_add_of_le h
 induction k with
 | zero => exact Int.le_refl _
 | succ k ih =>
  have := ih (by omega)
  have h0 : (0 : Int) ≤ 2 ^ (i + k) := Int.pow_nonneg (by decide)
  rw [← Nat.add_assoc, Int.pow_succ]
  omega
theorem isMult_pow {i : Nat} : isMult ((2 : Int) ^ i) ↔ i ≤ 8 := by
 constructor
 ·intro h
  rcases Nat.lt_or_ge 8 i with h1 | h1
  ·have := pow_le h1
   have e : (2 : Int) ^ (8 + 1) = 512 := by decide
   rw [e] at this
   unfold isMult at h
   omega
  ·exact h1
 ·intro h
  match i, h with
  | 0, _ => decide
  | 1, _ => decide
  | 2, _ => decide
  | 3, _ => decide
  | 4, _ => decide
  | 5, _ => decide
  | 6, _ => decide
  | 7, _ => decide
  | 8, _ => decide
theorem isMult_is {n : Int} (h : isMult n) : ∃ i : Nat, i ≤ 8 ∧ n = 2 ^ i := by
 unfold isMult at h
 rcases h with rfl | rfl | rfl | rfl | rfl | rfl | rfl | rfl | rfl
 ·exact ⟨0, by decide, by decide⟩
 ·exact ⟨1, by decide, by decide⟩
 ·exact ⟨2, by decide, by decide⟩
 ·exact ⟨3, by decide, by decide⟩
 ·exact ⟨4, by decide, by decide⟩
 ·exact ⟨5, by decide, by decide⟩
 ·exact ⟨6, by decide, by decide⟩
 ·exact ⟨7, by decide, by decide⟩
 ·exact ⟨8, by decide, by decide⟩
theorem rLog (n : Int) (L : Chunk) : Fn1 Tryz.prog 159 [.int .u64 n] L (fun u L' => (∃ j, u = .int .i64 j ∧ ((0 ≤ j ∧ j ≤ 8) ↔ isMult n) ∧ -1 ≤ j ∧ j < 64) ∧ L = L') := by
 intro w0; refine Spec.enter1 Tryz.func159 rfl Tryz.ntmps159 (by decide) ?_
 repeat' (first|refine Ga0 fun _=>?_|refine Ga1 ?_|refine Ga2 (fun _=>?_) fun _=>?_|refine Ga3 ?_|fail)
 refine CW.count 64 (fun i ρ ds L' => ds = [] ∧ L' = L ∧ (∀ t : Nat, t < i → n ≠ 2 ^ t) ∧ (∃ q : Int, Ev ρ 3 (.int .u64 q) ∧ (i < 64 → q = 2 ^ i)) ∧ Ev ρ 0 (.int .u64 n) ∧ Ev ρ 4 (.int .i64 (i : Int))) ⟨rfl, rfl, fun t h => by omega, ⟨1, ii, fun _ => rfl⟩, ii, ii⟩ ?_
 rintro i ρ ds L' hi ⟨rfl, rfl, hg, ⟨q, e3, hq⟩, e0, e4⟩
 by_cases hlt : i < 64
 ·have hq1 := hq hlt
  have hit : q = n → ((0 ≤ (i : Int) ∧ (i : Int) ≤ 8) ↔ isMult n) := fun h => by
   rw [← h, hq1, isMult_pow]; omega
  have nxt : ¬ q = n → ∀ t : Nat, t < i + 1 → n ≠ 2 ^ t := fun h => all_step hg (fun e => h (by rw [hq1, e]))
  have hq2 : i + 1 < 64 → q * 2 = 2 ^ (i + 1) := fun _ => by rw [hq1, Int.pow_succ]
  have hb : i + 1 < 64 → 0 ≤ q ∧ q ≤ 4611686018427387904 := fun h => by
   have := pow_le (show i ≤ 62 by omega)
   have e : (2 : Int) ^ 62 = 4611686018427387904 := by decide
   have h0 : (0 : Int) ≤ 2 ^ i := Int.pow_nonneg (by decide)
   rw [hq1]; omega
  clear hq hq1
  by_cases hl2 : i + 1 < 64
  ·have hb' := hb hl2
   obtain ⟨b1, b2⟩ := hb'
   repeat' (first|refine Ga0 fun _=>?_|refine Ga1 ?_|refine Ga2 (fun _=>?_) fun _=>?_|refine Ga3 ?_|fail)
   ·exact bodyK.retD L' (Res.one Tryz.results159) ⟨⟨_, rfl, hit (by assumption), by omega, by omega⟩, rfl⟩
   ·exact ⟨hlt, rfl, rfl, nxt (by assumption), ⟨_, ii, hq2⟩, ii, by rw [Int.natCast_add]; infer_instance⟩
  ·repeat' (first|refine Ga0 fun _=>?_|refine Ga1 ?_|refine Ga2 (fun _=>?_) fun _=>?_|refine Ga3 ?_|fail)
   ·exact bodyK.retD L' (Res.one Tryz.results159) ⟨⟨_, rfl, hit (by assumption), by omega, by omega⟩, rfl⟩
   ·exact ⟨hlt, rfl, rfl, nxt (by assumption), ⟨_, ii, fun h => absurd h hl2⟩, ii, by rw [Int.natCast_add]; infer_instance⟩
 ·obtain rfl : i = 64 := by omega
  have hno : ((0 ≤ (-1 : Int) ∧ (-1 : Int) ≤ 8) ↔ isMult n) := ⟨fun h => by omega, fun h => by
   obtain ⟨i, h1, h2⟩ := isMult_is h
   exact absurd h2 (hg i (by omega))⟩
  repeat' (first|refine Ga0 fun _=>?_|refine Ga1 ?_|refine Ga2 (fun _=>?_) fun _=>?_|refine Ga3 ?_|fail)
  exact bodyK.retD L' (Res.one Tryz.results159) ⟨⟨_, rfl, hno, by decide, by decide⟩, rfl⟩
theorem rPayload (k : Int) (hk : 0 ≤ k ∧ k < 8) (L : Chunk) : Fn1 Tryz.prog 161 [.int .i64 k] L (fun u L' => u = .int .i64 (pay k) ∧ L = L') := by
 obtain ⟨k1, k2⟩ := hk
 have h : k = 0 ∨ k = 1 ∨ k = 2 ∨ k = 3 ∨ k = 4 ∨ k = 5 ∨ k = 6 ∨ k = 7 := by omega
 intro w0; refine Spec.enter1 Tryz.func161 rfl Tryz.ntmps161 (by decide) ?_
 rcases h with rfl | rfl | rfl | rfl | rfl | rfl | rfl | rfl
 all_goals repeat' (first|refine Ga0 fun _=>?_|refine Ga1 ?_|refine Ga2 (fun _=>?_) fun _=>?_|refine Ga3 ?_|fail)
 all_goals exact bodyK.retD L (Res.one Tryz.results161) ⟨rfl, rfl⟩
theorem cls_hit {n : Int} {i : Nat} (hi : i < 8) (h : n ≤ pay i) (hl : ∀ t : Nat, t < i → ¬ n ≤ pay t) : clsOf n = i := by
 match i, hi with
 | 0, _ => simp only [pay] at h; unfold clsOf; simp at h; rw [if_pos h]; rfl
 | 1, _ =>
  have g0 := hl 0 (by omega)
  simp [pay] at h g0
  unfold clsOf
  rw [if_neg (by omega), if_pos (by omega)]; rfl
 | 2, _ =>
  have g0 := hl 1 (by omega)
  simp [pay] at h g0
  unfold clsOf
  rw [if_neg (by omega), if_neg (by omega), if_pos (by omega)]; rfl
 | 3, _ =>
  have g0 := hl 2 (by omega)
  simp [pay] at h g0
  unfold clsOf
  rw [if_neg (by omega), if_neg (by omega), if_neg (by omega), if_pos (by omega)]; rfl
 | 4, _ =>
  have g0 := hl 3 (by omega)
  simp [pay] at h g0
  unfold clsOf
  rw [if_neg (by omega), if_neg (by omega), if_neg (by omega), if_neg (by omega), if_pos (by omega)]; rfl
 | 5, _ =>
  have g0 := hl 4 (by omega)
  simp [pay] at h g0
  unfold clsOf
  rw [if_neg (by omega), if_neg (by omega), if_neg (by omega), if_neg (by omega), if_neg (by omega), if_pos (by omega)]; rfl
 | 6, _ =>
  have g0 := hl 5 (by omega)
  simp [pay] at h g0
  unfold clsOf
  rw [if_neg (by omega), if_neg (by omega), if_neg (by omega), if_neg (by omega), if_neg (by omega), if_neg (by omega), if_pos (by omega)]; rfl
 | 7, _ =>
  have g0 := hl 6 (by omega)
  simp [pay] at h g0
  unfold clsOf
  rw [if_neg (by omega), if_neg (by omega), if_neg (by omega), if_neg (by omega), if_neg (by omega), if_neg (by omega), if_neg (by omega)]; rfl
theorem rClass (n : Int) (hn : 0 ≤ n) (L : Chunk) : Fn1 Tryz.prog 160 [.int .i64 n] L (fun u L' => u = .int .i64 (if n ≤ 256 then clsOf n else -1) ∧ L = L') := by
 intro w0; refine Spec.enter1 Tryz.func160 rfl Tryz.ntmps160 (by decide) ?_
 repeat' (first|refine Ga0 fun _=>?_|refine Ga1 ?_|refine Ga2 (fun _=>?_) fun _=>?_|refine Ga3 ?_|fail)
 refine CW.count 8 (fun i ρ ds L' => ds = [] ∧ L' = L ∧ (∀ t : Nat, t < i → ¬ n ≤ pay t) ∧ Ev ρ 0 (.int .i64 n) ∧ Ev ρ 3 (.int .i64 (i : Int))) ⟨rfl, rfl, fun t h => by omega, ii, ii⟩ ?_
 rintro i ρ ds L' hi ⟨rfl, rfl, hg, e0, e3⟩
 by_cases hlt : i < 8
 ·have hit : n ≤ pay i → (i : Int) = if n ≤ 256 then clsOf n else -1 := fun h => by
   have := pay_pos i
   rw [if_pos (by omega), cls_hit hlt h hg]
  have nxt : ¬ n ≤ pay i → ∀ t : Nat, t < i + 1 → ¬ n ≤ pay t := fun h => all_step hg h
  repeat' (first|refine Ga0 fun _=>?_|refine Ga1 ?_|refine Ga2 (fun _=>?_) fun _=>?_|refine Ga3 ?_|fail)
  refine OW.call (rPayload i (by omega) _) ?_
  rintro _ _ ⟨rfl, rfl⟩
  generalize pay i = q at *
  repeat' (first|refine Ga0 fun _=>?_|refine Ga1 ?_|refine Ga2 (fun _=>?_) fun _=>?_|refine Ga3 ?_|fail)
  ·exact bodyK.retD L' (Res.one Tryz.results160) ⟨by rw [hit (by assumption)], rfl⟩
  ·exact ⟨hlt, rfl, rfl, nxt (by assumption), ii, by rw [Int.natCast_add]; infer_instance⟩
 ·obtain rfl : i = 8 := by omega
  have h7 : ¬ n ≤ 256 := hg 7 (by omega)
  rw [if_neg h7]
  repeat' (first|refine Ga0 fun _=>?_|refine Ga1 ?_|refine Ga2 (fun _=>?_) fun _=>?_|refine Ga3 ?_|fail)
  exact bodyK.retD L' (Res.one Tryz.results160) ⟨rfl, rfl⟩
theorem rSize (size mult : Int) (h : 0 ≤ size ∧ size ≤ 18446744073709551615) (L : Chunk) : Fn1 Tryz.prog 117 [.int .u64 size, .int .u64 mult] L (fun u L' => u = needV (needOf size mult) ∧ L = L') := by
 obtain ⟨h1, h2⟩ := h
 intro w0; refine Spec.enter2 Tryz.func117 rfl Tryz.ntmps117 (by decide) ?_
 repeat' (first|refine Ga0 fun _=>?_|refine Ga1 ?_|refine Ga2 (fun _=>?_) fun _=>?_|refine Ga3 ?_|refine Ga4 fun _=>?_|fail)
 rename_i b4
 refine OW.call (rLog mult _) ?_
 rintro _ _ ⟨⟨j, rfl, hj, j1, j2⟩, rfl⟩
 by_cases hbad : 262144 < size ∨ ¬ isMult mult
 ·have e : needOf size mult = none := by unfold needOf; rw [if_pos hbad]
  rw [e]
  have hbad' : 262144 < size ∨ j < 0 ∨ 8 < j := by
   rcases hbad with h | h
   ·exact .inl h
   ·rcases Classical.em (0 ≤ j ∧ j ≤ 8) with h3 | h3
    ·exact absurd (hj.1 h3) h
    ·right; omega
  clear hbad hj
  repeat' (first|refine Ga0 fun _=>?_|refine Ga1 ?_|refine Ga2 (fun _=>?_) fun _=>?_|refine Ga3 ?_|refine Ga4 fun _=>?_|fail)
  all_goals first
   | exact bodyK.retD L (Res.of2 Tryz.results117) ⟨rfl, rfl⟩
   | (exfalso; omega)
 ·have hm : isMult mult := by rcases Classical.em (isMult mult) with h | h; exact h; exact absurd (.inr h) hbad
  have hs : size ≤ 262144 := by omega
  have hj1 := hj.2 hm
  obtain ⟨j3, j4⟩ := hj1
  have en : needOf size mult = if max 1 size ≤ 256 ∧ mult ≤ 16 then some ⟨true, clsOf (max 1 size), 0, pay (clsOf (max 1 size))⟩ else some ⟨false, 0, (max 1 size + 255) / 256, (max 1 size + 255) / 256 * 256⟩ := by unfold needOf; rw [if_neg hbad]
  clear hbad hj
  have n1 : 1 ≤ max 1 size := by omega
  have n2 : max 1 size ≤ 262144 := by omega
  repeat' (first|refine Ga0 fun _=>?_|refine Ga1 ?_|refine Ga2 (fun _=>?_) fun _=>?_|refine Ga3 ?_|refine Ga4 fun _=>?_|fail)
  generalize max 1 size = n at *
  refine OW.call (rClass n (by omega) _) ?_
  rintro _ _ ⟨rfl, rfl⟩
  have hc := clsOf_range n
  obtain ⟨c1, c2⟩ := hc
  by_cases hb : n ≤ 256 ∧ mult ≤ 16
  ·obtain ⟨g1, g2⟩ := hb
   rw [if_pos g1]
   rw [en, if_pos ⟨g1, g2⟩]
   clear en
   have hp := pay_pos (clsOf n)
   generalize hcc : clsOf n = c at *
   repeat' (first|refine Ga0 fun _=>?_|refine Ga1 ?_|refine Ga2 (fun _=>?_) fun _=>?_|refine Ga3 ?_|refine Ga4 fun _=>?_|fail)
   refine OW.call (rPayload c ⟨c1, by omega⟩ _) ?_
   rintro _ _ ⟨rfl, rfl⟩
   repeat' (first|refine Ga0 fun _=>?_|refine Ga1 ?_|refine Ga2 (fun _=>?_) fun _=>?_|refine Ga3 ?_|refine Ga4 fun _=>?_|fail)
   exact bodyK.retD L (Res.of2 Tryz.results117) ⟨rfl, rfl⟩
  ·rw [en, if_neg hb]
   clear en
   have hcb : (if n ≤ 256 then clsOf n else -1) < 0 ∨ 16 < mult := by
    split <;> omega
   have hcr : -1 ≤ (if n ≤ 256 then clsOf n else -1) ∧ (if n ≤ 256 then clsOf n else -1) ≤ 7 := by
    split <;> omega
   generalize (if n ≤ 256 then clsOf n else -1) = cv at *
   by_cases hcv : 0 ≤ cv
   all_goals (
    repeat' (first|refine Ga0 fun _=>?_|refine Ga1 ?_|refine Ga2 (fun _=>?_) fun _=>?_|refine Ga3 ?_|refine Ga4 fun _=>?_|fail)
    refine CW.count 1024 (fun i ρ ds L' => ds = [] ∧ L' = (b4, .cells #[.bool false, .int .i64 0, .int .i64 0, .int .i64 0] 232 (0, 0)) :: L ∧ (i : Int) * 256 < n ∧ Ev ρ 4 (.pointer (some ⟨b4, 0, none⟩)) ∧ Ev ρ 7 (.int .i64 n) ∧ Ev ρ 9 (.int .i64 ((i : Int) + 1))) ⟨rfl, rfl, by omega, ii, ii, (show Ev _ 9 (.int .i64 1) from ii)⟩ ?_
    rintro i ρ ds L' hi ⟨rfl, rfl, hg, e4, e7, e9⟩
    by_cases hlt : ((i : Int) + 1) * 256 < n
    ·repeat' (first|refine Ga0 fun _=>?_|refine Ga1 ?_|refine Ga2 (fun _=>?_) fun _=>?_|refine Ga3 ?_|refine Ga4 fun _=>?_|fail)
     exact ⟨by omega, rfl, rfl, by omega, ii, ii, by rw [Int.natCast_add]; infer_instance⟩
    ·repeat' (first|refine Ga0 fun _=>?_|refine Ga1 ?_|refine Ga2 (fun _=>?_) fun _=>?_|refine Ga3 ?_|refine Ga4 fun _=>?_|fail)
     refine bodyK.retD L (Res.of2 Tryz.results117) ⟨?_, rfl⟩
     have e1 : (n + 255) / 256 = (i : Int) + 1 := by omega
     simp only [needV]
     rw [e1, Int.mul_comm])
theorem rTimes (a b : Int) (ha : 0 ≤ a ∧ a ≤ 18446744073709551615) (hb : 0 ≤ b ∧ b ≤ 18446744073709551615) (L : Chunk) : Fn1 Tryz.prog 197 [.int .u64 a, .int .u64 b] L (fun u L' => u = (if 18446744073709551615 < a * b then .tuple #[.int .u64 0, .bool false] else .tuple #[.int .u64 (a * b), .bool true]) ∧ L = L') := by
 obtain ⟨a1, a2⟩ := ha
 obtain ⟨b1, b2⟩ := hb
 have h0 : 0 ≤ a * b := Int.mul_nonneg a1 b1
 intro w0; refine Spec.enter2 Tryz.func197 rfl Tryz.ntmps197 (by decide) ?_
 by_cases hz : a = 0
 ·subst hz
  rw [if_neg (by rw [Int.zero_mul]; decide)]
  have hz2 : (0 : Int) * b = 0 := Int.zero_mul b
  repeat' (first|refine Gb0 fun _=>?_|refine Gb1 ?_|refine Gb2 (fun _=>?_) fun _=>?_|refine Gb3 ?_|fail)
  exact bodyK.retD L (Res.of2 Tryz.results197) ⟨rfl, rfl⟩
 ·have ha0 : 0 < a := by omega
  have hd : 18446744073709551615 / a < b ↔ 18446744073709551615 < a * b := by rw [Int.ediv_lt_iff_lt_mul ha0, Int.mul_comm]
  by_cases hc : 18446744073709551615 < a * b
  ·rw [if_pos hc]
   have hd1 := hd.2 hc
   clear hd
   repeat' (first|refine Gb0 fun _=>?_|refine Gb1 ?_|refine Gb2 (fun _=>?_) fun _=>?_|refine Gb3 ?_|fail)
   exact bodyK.retD L (Res.of2 Tryz.results197) ⟨rfl, rfl⟩
  ·rw [if_neg hc]
   have hd1 : ¬ 18446744073709551615 / a < b := fun h => hc (hd.1 h)
   clear hd
   repeat' (first|refine Gb0 fun _=>?_|refine Gb1 ?_|refine Gb2 (fun _=>?_) fun _=>?_|refine Gb3 ?_|fail)
   exact bodyK.retD L (Res.of2 Tryz.results197) ⟨rfl, rfl⟩
theorem rMul (a b : Int) (ha : 0 ≤ a ∧ a ≤ 18446744073709551615) (hb : 0 ≤ b ∧ b ≤ 18446744073709551615) (bk cap : Nat) (hcap : 2 ≤ cap) (L : Chunk) [hin : InC L bk (.cells #[.int .u64 a, .int .u64 b] 47 (0, 0))] :
  Fn1 Tryz.prog 164 [.slice (some ⟨bk, 0, none⟩) 2 cap] L (fun u L' => u = (if 18446744073709551615 < a * b then .tuple #[.int .u64 0, .int .i64 120] else .tuple #[.int .u64 (a * b), .int .i64 0]) ∧ L = L') := by
 have ha' := ha
 have hb' := hb
 obtain ⟨a1, a2⟩ := ha
 obtain ⟨b1, b2⟩ := hb
 have h0 : 0 ≤ a * b := Int.mul_nonneg a1 b1
 intro w0; refine Spec.enter1 Tryz.func164 rfl Tryz.ntmps164 (by decide) ?_
 repeat' (first|refine Ga0 fun _=>?_|refine Ga1 ?_|refine Ga2 (fun _=>?_) fun _=>?_|refine Ga3 ?_|fail)
 refine CW.count 2 (fun i ρ ds L' => ds = [] ∧ L' = L ∧ (0 < i → a ≠ 0) ∧ (1 < i → b ≠ 0) ∧ Ev ρ 0 (.slice (some ⟨bk, 0, none⟩) 2 cap) ∧ Ev ρ 4 (.int .i64 (i : Int))) ⟨rfl, rfl, fun h => by omega, fun h => by omega, ii, ii⟩ ?_
 rintro i ρ ds L' hi ⟨rfl, rfl, hga, hgb, e0, e4⟩
 have hz : a = 0 ∨ b = 0 → (if 18446744073709551615 < a * b then .tuple #[.int .u64 0, .int .i64 120] else .tuple #[.int .u64 (a * b), .int .i64 0]) = Value.tuple #[.int .u64 0, .int .i64 0] := fun h => by
  have : a * b = 0 := by rcases h with rfl | rfl <;> simp
  rw [this]; rfl
 match i, hi with
 | 0, _ =>
  have e4' : Ev ρ 4 (.int .i64 0) := e4
  clear e4
  by_cases hz1 : a = 0
  ·rw [hz (.inl hz1)]
   repeat' (first|refine Ga0 fun _=>?_|refine Ga1 ?_|refine Ga2 (fun _=>?_) fun _=>?_|refine Ga3 ?_|fail)
   exact bodyK.retD L' (Res.of2 Tryz.results164) ⟨rfl, rfl⟩
  ·repeat' (first|refine Ga0 fun _=>?_|refine Ga1 ?_|refine Ga2 (fun _=>?_) fun _=>?_|refine Ga3 ?_|fail)
   exact ⟨by omega, rfl, rfl, fun _ => hz1, fun h => by omega, ii, (show Ev _ 4 (.int .i64 1) from ii)⟩
 | 1, _ =>
  have e4' : Ev ρ 4 (.int .i64 1) := e4
  clear e4
  by_cases hz1 : b = 0
  ·rw [hz (.inr hz1)]
   repeat' (first|refine Ga0 fun _=>?_|refine Ga1 ?_|refine Ga2 (fun _=>?_) fun _=>?_|refine Ga3 ?_|fail)
   exact bodyK.retD L' (Res.of2 Tryz.results164) ⟨rfl, rfl⟩
  ·repeat' (first|refine Ga0 fun _=>?_|refine Ga1 ?_|refine Ga2 (fun _=>?_) fun _=>?_|refine Ga3 ?_|fail)
   exact ⟨by omega, rfl, rfl, fun _ => hga (by omega), fun _ => hz1, ii, (show Ev _ 4 (.int .i64 2) from ii)⟩
 | 2, _ =>
  have e4' : Ev ρ 4 (.int .i64 2) := e4
  clear e4 hz
  repeat' (first|refine Ga0 fun _=>?_|refine Ga1 ?_|refine Ga2 (fun _=>?_) fun _=>?_|refine Ga3 ?_|fail)
  refine CW.count 2 (fun i ρ ds L'' => ds = [] ∧ L'' = L' ∧ (i = 2 → ¬ 18446744073709551615 < a * b) ∧ Ev ρ 0 (.slice (some ⟨bk, 0, none⟩) 2 cap) ∧ Ev ρ 6 (.int .i64 (i : Int)) ∧ Ev ρ 5 (.int .u64 (if i = 0 then 1 else if i = 1 then a else a * b))) ⟨rfl, rfl, fun h => by omega, ii, ii, (show Ev _ 5 (.int .u64 1) from ii)⟩ ?_
  clear e4' e0
  rintro i ρ ds L'' hi ⟨rfl, rfl, hg2, e0, e6, e5⟩
  match i, hi with
  | 0, _ =>
   have e6' : Ev ρ 6 (.int .i64 0) := e6
   have e5' : Ev ρ 5 (.int .u64 1) := e5
   clear e6 e5
   repeat' (first|refine Ga0 fun _=>?_|refine Ga1 ?_|refine Ga2 (fun _=>?_) fun _=>?_|refine Ga3 ?_|fail)
   refine OW.call (rTimes 1 a (by decide) ha' _) ?_
   intro u L2 hu
   rw [Int.one_mul, if_neg (by omega)] at hu
   obtain ⟨rfl, rfl⟩ := hu
   repeat' (first|refine Ga0 fun _=>?_|refine Ga1 ?_|refine Ga2 (fun _=>?_) fun _=>?_|refine Ga3 ?_|fail)
   exact ⟨by omega, rfl, rfl, fun h => by omega, ii, (show Ev _ 6 (.int .i64 1) from ii), (show Ev _ 5 (.int .u64 a) from ii)⟩
  | 1, _ =>
   have e6' : Ev ρ 6 (.int .i64 1) := e6
   have e5' : Ev ρ 5 (.int .u64 a) := e5
   clear e6 e5
   repeat' (first|refine Ga0 fun _=>?_|refine Ga1 ?_|refine Ga2 (fun _=>?_) fun _=>?_|refine Ga3 ?_|fail)
   refine OW.call (rTimes a b ha' hb' _) ?_
   intro u L2 hu
   by_cases hc : 18446744073709551615 < a * b
   ·rw [if_pos hc] at hu
    obtain ⟨rfl, rfl⟩ := hu
    rw [if_pos hc]
    repeat' (first|refine Ga0 fun _=>?_|refine Ga1 ?_|refine Ga2 (fun _=>?_) fun _=>?_|refine Ga3 ?_|fail)
    exact bodyK.retD L'' (Res.of2 Tryz.results164) ⟨rfl, rfl⟩
   ·rw [if_neg hc] at hu
    obtain ⟨rfl, rfl⟩ := hu
    repeat' (first|refine Ga0 fun _=>?_|refine Ga1 ?_|refine Ga2 (fun _=>?_) fun _=>?_|refine Ga3 ?_|fail)
    exact ⟨by omega, rfl, rfl, fun _ => hc, ii, (show Ev _ 6 (.int .i64 2) from ii), (show Ev _ 5 (.int .u64 (a * b)) from ii)⟩
  | 2, _ =>
   have e6' : Ev ρ 6 (.int .i64 2) := e6
   have e5' : Ev ρ 5 (.int .u64 (a * b)) := e5
   clear e6 e5
   rw [if_neg (hg2 rfl)]
   repeat' (first|refine Ga0 fun _=>?_|refine Ga1 ?_|refine Ga2 (fun _=>?_) fun _=>?_|refine Ga3 ?_|fail)
   exact bodyK.retD L'' (Res.of2 Tryz.results164) ⟨rfl, rfl⟩
theorem rTotal (a b : Int) (ha : 0 ≤ a ∧ a ≤ 18446744073709551615) (hb : 0 ≤ b ∧ b ≤ 18446744073709551615) (L : Chunk) : Fn1 Tryz.prog 120 [.int .u64 a, .int .u64 b] L (fun u L' => u = totalV (total a b) ∧ L = L') := by
 have h0 : 0 ≤ a * b := Int.mul_nonneg ha.1 hb.1
 intro w0; refine Spec.enter2 Tryz.func120 rfl Tryz.ntmps120 (by decide) ?_
 repeat' (first|refine Ga0 fun _=>?_|refine Ga1 ?_|refine Ga2 (fun _=>?_) fun _=>?_|refine Ga3 ?_|refine Ga4 fun _=>?_|fail)
 refine OW.call (rMul a b ha hb _ _ (Nat.le_refl _) _) ?_
 rintro _ _ ⟨rfl, rfl⟩
 by_cases h1 : 18446744073709551615 < a * b
 ·have e : total a b = none := by unfold total; rw [if_pos (by omega)]
  rw [e, if_pos h1]
  repeat' (first|refine Ga0 fun _=>?_|refine Ga1 ?_|refine Ga2 (fun _=>?_) fun _=>?_|refine Ga3 ?_|refine Ga4 fun _=>?_|fail)
  exact bodyK.retD L (Res.of2 Tryz.results120) ⟨rfl, rfl⟩
 ·rw [if_neg h1]
  by_cases h2 : 262144 < a * b
  ·have e : total a b = none := by unfold total; rw [if_pos h2]
   rw [e]
   repeat' (first|refine Ga0 fun _=>?_|refine Ga1 ?_|refine Ga2 (fun _=>?_) fun _=>?_|refine Ga3 ?_|refine Ga4 fun _=>?_|fail)
   exact bodyK.retD L (Res.of2 Tryz.results120) ⟨rfl, rfl⟩
  ·have e : total a b = some (a * b) := by unfold total; rw [if_neg h2]
   rw [e]
   repeat' (first|refine Ga0 fun _=>?_|refine Ga1 ?_|refine Ga2 (fun _=>?_) fun _=>?_|refine Ga3 ?_|refine Ga4 fun _=>?_|fail)
   exact bodyK.retD L (Res.of2 Tryz.results120) ⟨rfl, rfl⟩
end Go.Proofs.YtmnhooepaemlcaaGreat
