/- OrderCalls: true for every input; arguments as before. Part 4. Conditions: none. -/
import Derived.Test.YtmnhooepaemlcaaGreatOC2
import Derived.Test.YtmnhooepaemlcaaGreatOC3
set_option linter.all false
namespace Go.Proofs.YtmnhooepaemlcaaGreat
open Go Go.Pw Go.Pw.Sc Go.Pw.Md
set_option maxRecDepth 100000
set_option maxHeartbeats 4000000
set_option synthInstance.maxHeartbeats 400000
set_option synthInstance.maxSize 2000
attribute [local irreducible] CW OW RW thenK blockK
attribute [local irreducible] scopeK loopK TRW ATW
theorem slotIs (s : Int) (L : Chunk) : Fn1 Tryz.prog 107 [.int .i64 s] L (fun u L' => u = .bool (decide (0 ≤ s ∧ s < 4)) ∧ L = L') := by
 intro w0; refine Spec.enter1 Tryz.func107 rfl Tryz.ntmps107 (by decide) ?_
 repeat' (first|refine Ga0 fun _=>?_|refine Ga1 ?_|refine Ga2 (fun _=>?_) fun _=>?_|refine Ga3 ?_|fail)
 all_goals exact bodyK.retD L (Res.one Tryz.results107) ⟨(congrArg Value.bool (by first | exact (decide_eq_true (by omega)).symm | exact (decide_eq_false (by omega)).symm)), rfl⟩
theorem placeBase (s : Int) (h : 0 ≤ s ∧ s < 4) (L : Chunk) : Fn1 Tryz.prog 108 [.agg #[.int .i64 s]] L (fun u L' => u = .int .i64 (4096 * (s + 1)) ∧ L = L') := by
 intro w0; refine Spec.enter1 Tryz.func108 rfl Tryz.ntmps108 (by decide) ?_
 obtain ⟨h1, h2⟩ := h
 repeat' (first|refine Ga0 fun _=>?_|refine Ga1 ?_|refine Ga2 (fun _=>?_) fun _=>?_|refine Ga3 ?_|refine Ga4 fun _=>?_|fail)
 exact bodyK.retD L (Res.one Tryz.results108) ⟨rfl, rfl⟩
theorem placeBook (s : Int) (h : 0 ≤ s ∧ s < 4) (L : Chunk) : Fn1 Tryz.prog 262 [.agg #[.int .i64 s]] L (fun u L' => u = .int .i64 (64 * s + 1) ∧ L = L') := by
 intro w0; refine Spec.enter1 Tryz.func262 rfl Tryz.ntmps262 (by decide) ?_
 obtain ⟨h1, h2⟩ := h
 repeat' (first|refine Ga0 fun _=>?_|refine Ga1 ?_|refine Ga2 (fun _=>?_) fun _=>?_|refine Ga3 ?_|refine Ga4 fun _=>?_|fail)
 exact bodyK.retD L (Res.one Tryz.results262) ⟨rfl, rfl⟩
theorem windowBase (s : Int) (L : Chunk) : Fn1 Tryz.prog 56 [.int .i64 s] L (fun u L' => (∃ b, u = .tuple #[.int .i64 b, .int .i64 (if 0 ≤ s ∧ s < 4 then 0 else 2)]) ∧ L = L') := by
 intro w0; refine Spec.enter1 Tryz.func56 rfl Tryz.ntmps56 (by decide) ?_
 repeat' (first|refine Ga0 fun _=>?_|refine Ga1 ?_|refine Ga2 (fun _=>?_) fun _=>?_|refine Ga3 ?_|refine Ga4 fun _=>?_|fail)
 refine OW.call (slotIs s _) ?_
 rintro _ _ ⟨rfl, rfl⟩
 by_cases h : 0 ≤ s ∧ s < 4
 ·rw [decide_eq_true h, if_pos h]
  repeat' (first|refine Ga0 fun _=>?_|refine Ga1 ?_|refine Ga2 (fun _=>?_) fun _=>?_|refine Ga3 ?_|refine Ga4 fun _=>?_|fail)
  refine OW.call (placeBase s h _) ?_
  rintro _ _ ⟨rfl, rfl⟩
  repeat' (first|refine Ga0 fun _=>?_|refine Ga1 ?_|refine Ga2 (fun _=>?_) fun _=>?_|refine Ga3 ?_|refine Ga4 fun _=>?_|fail)
  exact bodyK.retD L (Res.two Tryz.results56) ⟨⟨_, rfl⟩, rfl⟩
 ·rw [decide_eq_false h, if_neg h]
  repeat' (first|refine Ga0 fun _=>?_|refine Ga1 ?_|refine Ga2 (fun _=>?_) fun _=>?_|refine Ga3 ?_|refine Ga4 fun _=>?_|fail)
  exact bodyK.retD L (Res.two Tryz.results56) ⟨⟨_, rfl⟩, rfl⟩
theorem fits1 (n : Int) (bo : Nat) (bound : Int) (L : Chunk) [hin : InC L bo (.cells #[.int .i64 bound] 3 (0, 0))] :
  Fn1 Tryz.prog 259 [.int .i64 n, .pointer (some ⟨bo, 0, none⟩)] L (fun u L' => u = .bool (decide (¬ (0 ≤ n ∧ n < bound))) ∧ L = L') := by
 intro w0; refine Spec.enter2 Tryz.func259 rfl Tryz.ntmps259 (by decide) ?_
 have h0 := hin
 repeat' (first|refine Ga0 fun _=>?_|refine Ga1 ?_|refine Ga2 (fun _=>?_) fun _=>?_|refine Ga3 ?_|fail)
 all_goals exact bodyK.retD L (Res.one Tryz.results259) ⟨(congrArg Value.bool (by first | exact (decide_eq_true (by omega)).symm | exact (decide_eq_false (by omega)).symm)), rfl⟩
theorem indexFuncInt (xs : List Int) (p : Int → Bool) (v fv : Value) (L : Chunk) (h : Rd L 1 v xs.length (iv xs)) (hl : (xs.length : Int) ≤ 9223372036854775807) (hf : ∀ x ∈ xs, VP Tryz.prog fv [.int .i64 x] L (fun u L' => u = .bool (p x) ∧ L = L') noPanic) :
  Fn1 Tryz.prog 256 [v, fv] L (fun u L' => u = .int .i64 ((xs.findIdx? p).elim (-1) fun n => (n : Int)) ∧ L = L') := by
 intro w0; refine Spec.enter2 Tryz.func256 rfl Tryz.ntmps256 (by decide) ?_
 obtain ⟨a, c, rfl, hc⟩ := h.isSlice
 repeat' (first|refine Ga0 fun _=>?_|refine Ga1 ?_|refine Ga2 (fun _=>?_) fun _=>?_|refine Ga3 ?_|fail)
 refine CW.count xs.length (fun i ρ ds L' => ds = [] ∧ L' = L ∧ (∀ x ∈ xs.take i, p x = false) ∧ Ev ρ 0 (.slice a xs.length c) ∧ Ev ρ 1 fv ∧ Ev ρ 7 (.int .i64 xs.length) ∧ Ev ρ 8 (.int .i64 i)) ⟨rfl, rfl, by simp, ii, ii, ii, ii⟩ ?_
 rintro i ρ ds L' hi ⟨rfl, rfl, hp, e0, e1, e7, e8⟩
 by_cases hlt : i < xs.length
 ·obtain ⟨b, k, cap, l, e, fr, hv, hin, hcap, hnth⟩ := h.open1 (by omega)
  cases hv
  have hn := hnth i _ hlt (iv_get hlt)
  repeat' (first|refine Ga0 fun _=>?_|refine Ga1 ?_|refine Ga2 (fun _=>?_) fun _=>?_|refine Ga3 ?_|fail)
  refine OW.callV1 (hf xs[i] (List.getElem_mem hlt)) ?_
  rintro _ _ ⟨rfl, rfl⟩
  cases hpx : p xs[i] with
  | true =>
   repeat' (first|refine Ga0 fun _=>?_|refine Ga1 ?_|refine Ga2 (fun _=>?_) fun _=>?_|refine Ga3 ?_|fail)
   refine bodyK.ret (Res.one Tryz.results256) ⟨?_, rfl⟩
   have : xs.findIdx? p = some i := by
    rw [List.findIdx?_eq_some_iff_getElem]
    exact ⟨hlt, hpx, fun j hj => by rw [hp xs[j] (by rw [List.mem_take_iff_getElem]; exact ⟨j, by omega, rfl⟩)]; simp⟩
   rw [this]; rfl
  | false =>
   repeat' (first|refine Ga0 fun _=>?_|refine Ga1 ?_|refine Ga2 (fun _=>?_) fun _=>?_|refine Ga3 ?_|fail)
   refine ⟨hlt, rfl, rfl, ?_, ii, ii, ii, ii⟩
   rw [List.take_succ_eq_append_getElem hlt]
   intro x hx
   rcases List.mem_append.1 hx with hx | hx
   ·exact hp x hx
   ·rw [List.mem_singleton.1 hx]; exact hpx
 ·obtain rfl : i = xs.length := by omega
  rw [List.take_length] at hp
  repeat' (first|refine Ga0 fun _=>?_|refine Ga1 ?_|refine Ga2 (fun _=>?_) fun _=>?_|refine Ga3 ?_|fail)
  refine bodyK.ret (Res.one Tryz.results256) ⟨?_, rfl⟩
  have : xs.findIdx? p = none := by rw [List.findIdx?_eq_none_iff]; exact hp
  rw [this]; rfl
theorem findIdx_ex {α : Type} (p : α → Bool) (xs : List α) : (0 ≤ ((xs.findIdx? p).elim (-1) fun n => (n : Int)) ↔ ∃ x ∈ xs, p x = true) := by
 cases h : xs.findIdx? p with
 | none =>
  rw [List.findIdx?_eq_none_iff] at h
  simp only [Option.elim_none]
  exact ⟨fun h => absurd h (by decide), fun ⟨x, hx, hp⟩ => by rw [h x hx] at hp; cases hp⟩
 | some n =>
  rw [List.findIdx?_eq_some_iff_getElem] at h
  simp only [Option.elim_some]
  exact ⟨fun _ => ⟨_, List.getElem_mem h.1, h.2.1⟩, fun _ => by omega⟩
theorem containsFuncInt (xs : List Int) (p : Int → Bool) (v fv : Value) (L : Chunk) (h : Rd L 1 v xs.length (iv xs)) (hl : (xs.length : Int) ≤ 9223372036854775807) (hf : ∀ x ∈ xs, VP Tryz.prog fv [.int .i64 x] L (fun u L' => u = .bool (p x) ∧ L = L') noPanic) :
  Fn1 Tryz.prog 258 [v, fv] L (fun u L' => u = .bool (decide (∃ x ∈ xs, p x = true)) ∧ L = L') := by
 intro w0; refine Spec.enter2 Tryz.func258 rfl Tryz.ntmps258 (by decide) ?_
 repeat' (first|refine Ga0 fun _=>?_|refine Ga1 ?_|refine Ga2 (fun _=>?_) fun _=>?_|refine Ga3 ?_|fail)
 refine OW.call (indexFuncInt xs p v fv L h hl hf) ?_
 rintro u L' ⟨rfl, rfl⟩
 have hk := findIdx_ex p xs
 generalize ((xs.findIdx? p).elim (-1) fun n => (n : Int)) = k at hk ⊢
 repeat' (first|refine Ga0 fun _=>?_|refine Ga1 ?_|refine Ga2 (fun _=>?_) fun _=>?_|refine Ga3 ?_|fail)
 all_goals refine bodyK.ret (Res.one Tryz.results258) ⟨congrArg Value.bool ?_, rfl⟩
 ·exact (decide_eq_true (hk.1 (by assumption))).symm
 ·exact (decide_eq_false (fun h => absurd (hk.2 h) (by assumption))).symm
theorem windowFits (bound n : Int) (v : Value) (L : Chunk) (h : Rd L 1 v 1 [.int .i64 n]) :
  Fn1 Tryz.prog 249 [.int .i64 bound, v] L (fun u L' => u = .bool (decide (0 ≤ n ∧ n < bound)) ∧ L = L') := by
 intro w0; refine Spec.enter2 Tryz.func249 rfl Tryz.ntmps249 (by decide) ?_
 obtain ⟨a, c, rfl, hc⟩ := h.isSlice
 repeat' (first|refine Ga0 fun _=>?_|refine Ga1 ?_|refine Ga2 (fun _=>?_) fun _=>?_|refine Ga3 ?_|refine Ga4 fun _=>?_|fail)
 rename_i bo
 refine OW.call (containsFuncInt [n] (fun n => decide (¬ (0 ≤ n ∧ n < bound))) _ _ _ h.to (by simp) (fun x _ => FnP.vp (first := #[]) (cap := #[.pointer (some ⟨bo, 0, none⟩)]) (fits1 x bo bound _))) ?_
 rintro u L' ⟨rfl, rfl⟩
 repeat' (first|refine Ga0 fun _=>?_|refine Ga1 ?_|refine Ga2 (fun _=>?_) fun _=>?_|refine Ga3 ?_|refine Ga4 fun _=>?_|fail)
 refine bodyK.retD L (Res.one Tryz.results249) ⟨congrArg Value.bool ?_, rfl⟩
 by_cases hall : 0 ≤ n ∧ n < bound
 ·simp [hall]
 ·simp only [List.mem_singleton, exists_eq_left, hall, not_false_eq_true, decide_true, decide_false, Bool.not_true]
@[reducible] def siteV (k s c p : Int) : Value := .agg #[.int .i64 k, .int .i64 s, .int .i64 c, .int .i64 p]
theorem kinds1 (s p f : Int) (h : 0 ≤ s ∧ s < 4) (hp : -100000 ≤ p ∧ p ≤ 100000) (L : Chunk) : Fn1 Tryz.prog 261 [.agg #[.int .i64 s], .int .i64 p, .int .i64 f] L
  (fun u L' => (∃ k s' c q, u = .tuple #[siteV k s' c q, .bool (decide (0 ≤ p - (64 * s + 1) ∧ p - (64 * s + 1) < 48))]) ∧ L = L') := by
 intro w0; refine Spec.enter3 Tryz.func261 rfl Tryz.ntmps261 (by decide) ?_
 have z1:DrS 1 6 [0,1,5,6,2,3,4,7,8,9,10,11,12]:=⟨⟨⟩⟩
 have h' := h
 obtain ⟨h1, h2⟩ := h'
 obtain ⟨hp1, hp2⟩ := hp
 repeat' (first|refine Gi0 fun _=>?_|refine Gi1 ?_|refine Gi2 (fun _=>?_) fun _=>?_|refine Gi3 ?_|refine Gi4 fun _=>?_|fail)
 refine RW.call (placeBook s h _) ?_
 rintro _ _ ⟨rfl, rfl⟩
 refine pinOld ?_
 repeat' (first|refine Gi0 fun _=>?_|refine Gi1 ?_|refine Gi2 (fun _=>?_) fun _=>?_|refine Gi3 ?_|refine Gi4 fun _=>?_|fail)
 refine RW.call (placeBook s h _) ?_
 rintro _ _ ⟨rfl, rfl⟩
 refine pinOld ?_
 repeat' (first|refine Gi0 fun _=>?_|refine Gi1 ?_|refine Gi2 (fun _=>?_) fun _=>?_|refine Gi3 ?_|refine Gi4 fun _=>?_|fail)
 refine RW.call (windowFits 48 _ _ _ (Rd.blk (b := _) (l := [_]) rfl (Nat.le_refl _))) ?_
 rintro _ _ ⟨rfl, rfl⟩
 refine pinOld ?_
 repeat' (first|refine Gi0 fun _=>?_|refine Gi1 ?_|refine Gi2 (fun _=>?_) fun _=>?_|refine Gi3 ?_|refine Gi4 fun _=>?_|fail)
 exact bodyK.retD L (Res.of2 Tryz.results261) ⟨⟨_, _, _, _, rfl⟩, rfl⟩
theorem kinds2 (s p f : Int) (hf : -100000 ≤ f ∧ f ≤ 100000) (L : Chunk) : Fn1 Tryz.prog 263 [.agg #[.int .i64 s], .int .i64 p, .int .i64 f] L
  (fun u L' => (∃ k s' c q, u = .tuple #[siteV k s' c q, .bool (decide (0 < f ∧ (f - 1) / 17 < 8 ∧ (f - 1) % 17 < 16))]) ∧ L = L') := by
 intro w0; refine Spec.enter3 Tryz.func263 rfl Tryz.ntmps263 (by decide) ?_
 obtain ⟨hf1, hf2⟩ := hf
 by_cases h0 : 0 < f
 ·repeat' (first|refine Gb0 fun _=>?_|refine Gb1 ?_|refine Gb2 (fun _=>?_) fun _=>?_|refine Gb3 ?_|refine Gb4 fun _=>?_|fail)
  all_goals exact bodyK.retD L (Res.of2 Tryz.results263) ⟨⟨_, _, _, _, congrArg Value.tuple (congrArg (fun x => #[_, x]) (congrArg Value.bool (by first | exact (decide_eq_true (by omega)).symm | exact (decide_eq_false (by omega)).symm)))⟩, rfl⟩
 ·repeat' (first|refine Gb0 fun _=>?_|refine Gb1 ?_|refine Gb2 (fun _=>?_) fun _=>?_|refine Gb3 ?_|refine Gb4 fun _=>?_|fail)
  refine OW.y (yl_quo (ii) (ii) (by decide)) ?_
  repeat' (first|refine Gb0 fun _=>?_|refine Gb1 ?_|refine Gb2 (fun _=>?_) fun _=>?_|refine Gb3 ?_|refine Gb4 fun _=>?_|fail)
  refine OW.y (yl_rem (ii) (ii) (by decide)) ?_
  repeat' (first|refine Gb0 fun _=>?_|refine Gb1 ?_|refine Gb2 (fun _=>?_) fun _=>?_|refine Gb3 ?_|refine Gb4 fun _=>?_|fail)
  all_goals exact bodyK.retD L (Res.of2 Tryz.results263) ⟨⟨_, _, _, _, congrArg Value.tuple (congrArg (fun x => #[_, x]) (congrArg Value.bool (by first | exact (decide_eq_true (by omega)).symm | exact (decide_eq_false (by omega)).symm)))⟩, rfl⟩
theorem kinds3 (s p f : Int) (L : Chunk) : Fn1 Tryz.prog 264 [.agg #[.int .i64 s], .int .i64 p, .int .i64 f] L
  (fun u L' => (∃ k s' c q, u = .tuple #[siteV k s' c q, .bool (decide (256 ≤ f ∧ f < 4096))]) ∧ L = L') := by
 intro w0; refine Spec.enter3 Tryz.func264 rfl Tryz.ntmps264 (by decide) ?_
 repeat' (first|refine Ga0 fun _=>?_|refine Ga1 ?_|refine Ga2 (fun _=>?_) fun _=>?_|refine Ga3 ?_|refine Ga4 fun _=>?_|fail)
 all_goals exact bodyK.retD L (Res.of2 Tryz.results264) ⟨⟨_, _, _, _, congrArg Value.tuple (congrArg (fun x => #[_, x]) (congrArg Value.bool (by first | exact (decide_eq_true (by omega)).symm | exact (decide_eq_false (by omega)).symm)))⟩, rfl⟩
theorem kinds4 (s p f : Int) (L : Chunk) : Fn1 Tryz.prog 265 [.agg #[.int .i64 s], .int .i64 p, .int .i64 f] L
  (fun u L' => (∃ k s' c q, u = .tuple #[siteV k s' c q, .bool (decide (0 ≤ f ∧ f < 4096))]) ∧ L = L') := by
 intro w0; refine Spec.enter3 Tryz.func265 rfl Tryz.ntmps265 (by decide) ?_
 repeat' (first|refine Ga0 fun _=>?_|refine Ga1 ?_|refine Ga2 (fun _=>?_) fun _=>?_|refine Ga3 ?_|refine Ga4 fun _=>?_|fail)
 refine OW.call (windowFits 4096 _ _ _ (Rd.blk (b := _) (l := [_]) rfl (Nat.le_refl _))) ?_
 rintro _ _ ⟨rfl, rfl⟩
 repeat' (first|refine Ga0 fun _=>?_|refine Ga1 ?_|refine Ga2 (fun _=>?_) fun _=>?_|refine Ga3 ?_|refine Ga4 fun _=>?_|fail)
 exact bodyK.retD L (Res.of2 Tryz.results265) ⟨⟨_, _, _, _, rfl⟩, rfl⟩
def kindB (j s p : Int) : Bool :=
 if j = 1 then decide (0 ≤ p - (64 * s + 1) ∧ p - (64 * s + 1) < 48)
 else if j = 2 then decide (0 < p - 4096 * (s + 1) ∧ (p - 4096 * (s + 1) - 1) / 17 < 8 ∧ (p - 4096 * (s + 1) - 1) % 17 < 16)
 else if j = 3 then decide (256 ≤ p - 4096 * (s + 1) ∧ p - 4096 * (s + 1) < 4096)
 else decide (0 ≤ p - 4096 * (s + 1) ∧ p - 4096 * (s + 1) < 4096)
theorem ofOne (j s p : Int) (fv : Value) (sf : Sng fv) (h : 0 ≤ s ∧ s < 4) (hp : 0 ≤ p ∧ p < 65536) (b1 b2 : Nat) (L : Chunk) [h1 : InC L b1 (.cells #[.int .i64 s] 218 (0, 0))] [h2 : InC L b2 (.cells #[.int .i64 p] 3 (0, 0))]
  (hv : ∀ L, VP Tryz.prog fv [.agg #[.int .i64 s], .int .i64 p, .int .i64 (p - 4096 * (s + 1))] L (fun u L' => (∃ k s' c q, u = .tuple #[siteV k s' c q, .bool (kindB j s p)]) ∧ L = L') noPanic) :
  Fn1 Tryz.prog 253 [.agg #[.int .i64 j, fv], .pointer (some ⟨b1, 0, none⟩), .pointer (some ⟨b2, 0, none⟩)] L (fun u L' => (∃ c q, u = .tuple #[siteV j s c q, .bool (kindB j s p)]) ∧ L = L') := by
 intro w0; refine Spec.enter3 Tryz.func253 rfl Tryz.ntmps253 (by decide) ?_
 have z1:DrT 1 (.fork [0, 1, 2, 3, 4, 5] 6 12 (.fork [7] 8 12 (.leaf [9, 10, 11, 12, 13, 14]) (.leaf [8, 9, 10, 11, 13, 14])) (.leaf [6, 7, 8, 9, 10, 11, 13, 14])):=⟨⟨⟩⟩; have z2:DrS 2 6 [0,1,2,3,4,5,6,7]:=⟨⟨⟩⟩
 have h' := h
 obtain ⟨s1, s2⟩ := h'
 obtain ⟨p1, p2⟩ := hp
 have g1 := h1
 have g2 := h2
 repeat' (first|refine Gi0 fun _=>?_|refine Gi1 ?_|refine TRW.fork ?_|refine TRW.leaf ?_|refine TRW.both ?_ ?_|refine Gi2 (fun _=>?_) fun _=>?_|refine Gi3 ?_|refine Gi4 fun _=>?_|fail)
 ·refine RW.call (placeBase s h _) ?_
  rintro _ _ ⟨rfl, rfl⟩
  refine pinAll ?_
  repeat' (first|refine Gi0 fun _=>?_|refine Gi1 ?_|refine TRW.fork ?_|refine TRW.leaf ?_|refine TRW.both ?_ ?_|refine Gi2 (fun _=>?_) fun _=>?_|refine Gi3 ?_|refine Gi4 fun _=>?_|fail)
  ·refine RW.callV1 (hv _) ?_
   rintro _ _ ⟨⟨k, s', c, q, rfl⟩, rfl⟩
   refine pinAll ?_
   repeat' (first|refine Gi0 fun _=>?_|refine Gi1 ?_|refine TRW.fork ?_|refine TRW.leaf ?_|refine TRW.both ?_ ?_|refine Gi2 (fun _=>?_) fun _=>?_|refine Gi3 ?_|refine Gi4 fun _=>?_|fail)
   exact bodyK.retD L (Res.of2 Tryz.results253) ⟨⟨_, _, rfl⟩, rfl⟩
  ·refine RW.callV1 (hv _) ?_
   rintro _ _ ⟨⟨k, s', c, q, rfl⟩, rfl⟩
   refine pinOld ?_
   repeat' (first|refine Gi0 fun _=>?_|refine Gi1 ?_|refine TRW.fork ?_|refine TRW.leaf ?_|refine TRW.both ?_ ?_|refine Gi2 (fun _=>?_) fun _=>?_|refine Gi3 ?_|refine Gi4 fun _=>?_|fail)
   exact bodyK.retD L (Res.of2 Tryz.results253) ⟨⟨_, _, rfl⟩, rfl⟩
 ·refine RW.call (placeBase s h _) ?_
  rintro _ _ ⟨rfl, rfl⟩
  refine pinOld ?_
  repeat' (first|refine Gi0 fun _=>?_|refine Gi1 ?_|refine TRW.fork ?_|refine TRW.leaf ?_|refine TRW.both ?_ ?_|refine Gi2 (fun _=>?_) fun _=>?_|refine Gi3 ?_|refine Gi4 fun _=>?_|fail)
  refine RW.callV1 (hv _) ?_
  rintro _ _ ⟨⟨k, s', c, q, rfl⟩, rfl⟩
  refine pinOld ?_
  repeat' (first|refine Gi0 fun _=>?_|refine Gi1 ?_|refine TRW.fork ?_|refine TRW.leaf ?_|refine TRW.both ?_ ?_|refine Gi2 (fun _=>?_) fun _=>?_|refine Gi3 ?_|refine Gi4 fun _=>?_|fail)
  exact bodyK.retD L (Res.of2 Tryz.results253) ⟨⟨_, _, rfl⟩, rfl⟩
theorem windowKinds (L : Chunk) : Fn1 Tryz.prog 252 [] L (fun u L' => ∃ b, u = .slice (some ⟨b, 0, none⟩) 4 4 ∧ L' = (b, .cells #[.int .i64 1, .func (.func 261) #[] #[], .int .i64 2, .func (.func 263) #[] #[], .int .i64 3, .func (.func 264) #[] #[], .int .i64 4, .func (.func 265) #[] #[]] 353 (0, 0)) :: L) := by
 intro w0; refine Spec.enter0 Tryz.func252 rfl Tryz.ntmps252 ?_
 repeat' (first|refine Ga0 fun _=>?_|refine Ga1 ?_|refine Ga2 (fun _=>?_) fun _=>?_|refine Ga3 ?_|refine Ga4 fun _=>?_|fail)
 exact bodyK.ret (Res.one Tryz.results252) ⟨_, rfl, rfl⟩
theorem kindB_none {s p : Int} : slotKind s p = 0 ↔ kindB 1 s p = false ∧ kindB 2 s p = false ∧ kindB 3 s p = false ∧ kindB 4 s p = false := by
 unfold slotKind kindB
 constructor
 ·intro h
  repeat' split at h
  all_goals first | cases h | skip
  simp only [if_true, show ¬ ((2 : Int) = 1) by decide, show ¬ ((3 : Int) = 1) by decide, show ¬ ((3 : Int) = 2) by decide, show ¬ ((4 : Int) = 1) by decide, show ¬ ((4 : Int) = 2) by decide, show ¬ ((4 : Int) = 3) by decide, if_false, decide_eq_false_iff_not]
  refine ⟨by omega, by assumption, by omega, by omega⟩
 ·simp only [if_true, show ¬ ((2 : Int) = 1) by decide, show ¬ ((3 : Int) = 1) by decide, show ¬ ((3 : Int) = 2) by decide, show ¬ ((4 : Int) = 1) by decide, show ¬ ((4 : Int) = 2) by decide, show ¬ ((4 : Int) = 3) by decide, if_false, decide_eq_false_iff_not]
  rintro ⟨h1, h2, h3, h4⟩
  rw [if_neg (by omega), if_neg h2, if_neg (by omega), if_neg (by omega)]
theorem kindB_is {s p j : Int} (hj : j = 1 ∨ j = 2 ∨ j = 3 ∨ j = 4) (h1 : ∀ i, 1 ≤ i → i < j → kindB i s p = false) (h2 : kindB j s p = true) : slotKind s p = j := by
 have d21 : ¬ ((2 : Int) = 1) := by decide
 have d31 : ¬ ((3 : Int) = 1) := by decide
 have d32 : ¬ ((3 : Int) = 2) := by decide
 have d41 : ¬ ((4 : Int) = 1) := by decide
 have d42 : ¬ ((4 : Int) = 2) := by decide
 have d43 : ¬ ((4 : Int) = 3) := by decide
 unfold slotKind
 rcases hj with rfl | rfl | rfl | rfl
 ·simp only [kindB, if_true, decide_eq_true_eq] at h2
  rw [if_pos (by omega)]
 ·have g1 := h1 1 (by decide) (by decide)
  simp only [kindB, if_true, d21, if_false, decide_eq_true_eq, decide_eq_false_iff_not] at h2 g1
  rw [if_neg (by omega), if_pos h2]
 ·have g1 := h1 1 (by decide) (by decide)
  have g2 := h1 2 (by decide) (by decide)
  simp only [kindB, if_true, d21, d31, d32, if_false, decide_eq_true_eq, decide_eq_false_iff_not] at h2 g1 g2
  rw [if_neg (by omega), if_neg g2, if_pos h2]
 ·have g1 := h1 1 (by decide) (by decide)
  have g2 := h1 2 (by decide) (by decide)
  have g3 := h1 3 (by decide) (by decide)
  simp only [kindB, if_true, d21, d31, d32, d41, d42, d43, if_false, decide_eq_true_eq, decide_eq_false_iff_not] at h2 g1 g2 g3
  rw [if_neg (by omega), if_neg g2, if_neg (by omega), if_pos h2]
@[reducible] def kfn (f : FuncId) : Value := .func (.func f) #[] #[]
theorem windowFirst (s p : Int) (bk : Nat) (fv : Value) (sf : Sng fv) (L : Chunk)
  [hk : InC L bk (.cells #[.int .i64 1, kfn 261, .int .i64 2, kfn 263, .int .i64 3, kfn 264, .int .i64 4, kfn 265] 353 (0, 0))]
  (v1 : ∀ L' [MemC L L'], VP Tryz.prog fv [.agg #[.int .i64 1, kfn 261]] L' (fun u L'' => (∃ c q, u = .tuple #[siteV 1 s c q, .bool (kindB 1 s p)]) ∧ L' = L'') noPanic)
  (v2 : ∀ L' [MemC L L'], VP Tryz.prog fv [.agg #[.int .i64 2, kfn 263]] L' (fun u L'' => (∃ c q, u = .tuple #[siteV 2 s c q, .bool (kindB 2 s p)]) ∧ L' = L'') noPanic)
  (v3 : ∀ L' [MemC L L'], VP Tryz.prog fv [.agg #[.int .i64 3, kfn 264]] L' (fun u L'' => (∃ c q, u = .tuple #[siteV 3 s c q, .bool (kindB 3 s p)]) ∧ L' = L'') noPanic)
  (v4 : ∀ L' [MemC L L'], VP Tryz.prog fv [.agg #[.int .i64 4, kfn 265]] L' (fun u L'' => (∃ c q, u = .tuple #[siteV 4 s c q, .bool (kindB 4 s p)]) ∧ L' = L'') noPanic) :
  Fn1 Tryz.prog 251 [.slice (some ⟨bk, 0, none⟩) 4 4, fv] L
   (fun u L' => (∃ s' c q, u = .tuple #[siteV (slotKind s p) s' c q, .bool (decide (slotKind s p ≠ 0))] ∧ (slotKind s p ≠ 0 → s' = s)) ∧ L = L') := by
 intro w0; refine Spec.enter2 Tryz.func251 rfl Tryz.ntmps251 (by decide) ?_
 have hk' := hk
 have fin : ∀ {j : Int}, slotKind s p = j → j ≠ 0 → ∀ c q, ∃ s' c' q', (Value.tuple #[siteV j s c q, .bool true] = .tuple #[siteV (slotKind s p) s' c' q', .bool (decide (slotKind s p ≠ 0))] ∧ (slotKind s p ≠ 0 → s' = s)) := fun e h c q => ⟨s, c, q, by rw [e, decide_eq_true h], fun _ => rfl⟩
 repeat' (first|refine Gc0 fun _=>?_|refine Gc1 ?_|refine Gc2 (fun _=>?_) fun _=>?_|refine Gc3 ?_|refine Gc4 fun _=>?_|fail)
 refine CW.loopU 5 ?_
 repeat' (first|refine Gc0 fun _=>?_|refine Gc1 ?_|refine Gc2 (fun _=>?_) fun _=>?_|refine Gc3 ?_|refine Gc4 fun _=>?_|fail)
 refine OW.callV1 (v1 _) ?_
 rintro _ _ ⟨⟨c, q, rfl⟩, rfl⟩
 cases h1 : kindB 1 s p with
 | true =>
  repeat' (first|refine Gc0 fun _=>?_|refine Gc1 ?_|refine Gc2 (fun _=>?_) fun _=>?_|refine Gc3 ?_|refine Gc4 fun _=>?_|fail)
  exact bodyK.retD L (Res.of2 Tryz.results251) ⟨fin (kindB_is (.inl rfl) (fun i a b => by omega) h1) (by decide) _ _, rfl⟩
 | false =>
  repeat' (first|refine Gc0 fun _=>?_|refine Gc1 ?_|refine Gc2 (fun _=>?_) fun _=>?_|refine Gc3 ?_|refine Gc4 fun _=>?_|fail)
  rw [show ((0 : Int) + 1).toNat = 1 from rfl]
  repeat' (first|refine Gc0 fun _=>?_|refine Gc1 ?_|refine Gc2 (fun _=>?_) fun _=>?_|refine Gc3 ?_|refine Gc4 fun _=>?_|fail)
  refine OW.callV1 (v2 _) ?_
  rintro _ _ ⟨⟨c, q, rfl⟩, rfl⟩
  cases h2 : kindB 2 s p with
  | true =>
   repeat' (first|refine Gc0 fun _=>?_|refine Gc1 ?_|refine Gc2 (fun _=>?_) fun _=>?_|refine Gc3 ?_|refine Gc4 fun _=>?_|fail)
   exact bodyK.retD L (Res.of2 Tryz.results251) ⟨fin (kindB_is (.inr (.inl rfl)) (fun i a b => (show 1 = i by omega) ▸ h1) h2) (by decide) _ _, rfl⟩
  | false =>
   repeat' (first|refine Gc0 fun _=>?_|refine Gc1 ?_|refine Gc2 (fun _=>?_) fun _=>?_|refine Gc3 ?_|refine Gc4 fun _=>?_|fail)
   rw [show ((0 : Int) + 1 + 1).toNat = 2 from rfl]
   repeat' (first|refine Gc0 fun _=>?_|refine Gc1 ?_|refine Gc2 (fun _=>?_) fun _=>?_|refine Gc3 ?_|refine Gc4 fun _=>?_|fail)
   refine OW.callV1 (v3 _) ?_
   rintro _ _ ⟨⟨c, q, rfl⟩, rfl⟩
   cases h3 : kindB 3 s p with
   | true =>
    repeat' (first|refine Gc0 fun _=>?_|refine Gc1 ?_|refine Gc2 (fun _=>?_) fun _=>?_|refine Gc3 ?_|refine Gc4 fun _=>?_|fail)
    exact bodyK.retD L (Res.of2 Tryz.results251) ⟨fin (kindB_is (.inr (.inr (.inl rfl))) (fun i a b => by
     rcases (show i = 1 ∨ i = 2 by omega) with rfl | rfl
     ·exact h1
     ·exact h2) h3) (by decide) _ _, rfl⟩
   | false =>
    repeat' (first|refine Gc0 fun _=>?_|refine Gc1 ?_|refine Gc2 (fun _=>?_) fun _=>?_|refine Gc3 ?_|refine Gc4 fun _=>?_|fail)
    rw [show ((0 : Int) + 1 + 1 + 1).toNat = 3 from rfl]
    repeat' (first|refine Gc0 fun _=>?_|refine Gc1 ?_|refine Gc2 (fun _=>?_) fun _=>?_|refine Gc3 ?_|refine Gc4 fun _=>?_|fail)
    refine OW.callV1 (v4 _) ?_
    rintro _ _ ⟨⟨c, q, rfl⟩, rfl⟩
    cases h4 : kindB 4 s p with
    | true =>
     repeat' (first|refine Gc0 fun _=>?_|refine Gc1 ?_|refine Gc2 (fun _=>?_) fun _=>?_|refine Gc3 ?_|refine Gc4 fun _=>?_|fail)
     exact bodyK.retD L (Res.of2 Tryz.results251) ⟨fin (kindB_is (.inr (.inr (.inr rfl))) (fun i a b => by
      rcases (show i = 1 ∨ i = 2 ∨ i = 3 by omega) with rfl | rfl | rfl
      ·exact h1
      ·exact h2
      ·exact h3) h4) (by decide) _ _, rfl⟩
    | false =>
     repeat' (first|refine Gc0 fun _=>?_|refine Gc1 ?_|refine Gc2 (fun _=>?_) fun _=>?_|refine Gc3 ?_|refine Gc4 fun _=>?_|fail)
     have h0 := kindB_none.2 ⟨h1, h2, h3, h4⟩
     exact bodyK.retD L (Res.of2 Tryz.results251) ⟨⟨0, 0, 0, by rw [h0]; rfl, fun h => absurd h0 h⟩, rfl⟩
theorem places1 (fv : Value) (J : Nat → Chunk → Prop) (E : Chunk → Prop) (L : Chunk) (h0 : J 0 L)
  (hy : ∀ s L', s < 4 → J s L' → VP Tryz.prog fv [.agg #[.int .i64 (s : Int)]] L' (fun u L'' => (u = .bool true ∧ J (s + 1) L'') ∨ (u = .bool false ∧ E L'')) noPanic) (hE : ∀ L', J 4 L' → E L') :
  Fn1 Tryz.prog 260 [fv] L (fun _ L' => E L') := by
 intro w0; refine Spec.enter1 Tryz.func260 rfl Tryz.ntmps260 (by decide) ?_
 repeat' (first|refine Ga0 fun _=>?_|refine Ga1 ?_|refine Ga2 (fun _=>?_) fun _=>?_|refine Ga3 ?_|fail)
 refine CW.count 4 (fun i ρ ds L' => ds = [] ∧ J i L' ∧ Ev ρ 0 fv ∧ Ev ρ 3 (.int .i64 (i : Int))) ⟨rfl, h0, ii, ii⟩ ?_
 rintro i ρ ds L' hi ⟨rfl, hJ, e0, e3⟩
 by_cases hlt : i < 4
 ·repeat' (first|refine Ga0 fun _=>?_|refine Ga1 ?_|refine Ga2 (fun _=>?_) fun _=>?_|refine Ga3 ?_|fail)
  refine OW.callV1 (hy i L' hlt hJ) ?_
  rintro _ L'' (⟨rfl, hJ'⟩ | ⟨rfl, hE'⟩)
  ·repeat' (first|refine Ga0 fun _=>?_|refine Ga1 ?_|refine Ga2 (fun _=>?_) fun _=>?_|refine Ga3 ?_|fail)
   exact ⟨hlt, rfl, hJ', ii, ii⟩
  ·repeat' (first|refine Ga0 fun _=>?_|refine Ga1 ?_|refine Ga2 (fun _=>?_) fun _=>?_|refine Ga3 ?_|fail)
   exact bodyK.ret (Res.zero Tryz.results260) hE'
 ·obtain rfl : i = 4 := by omega
  repeat' (first|refine Ga0 fun _=>?_|refine Ga1 ?_|refine Ga2 (fun _=>?_) fun _=>?_|refine Ga3 ?_|fail)
  exact bodyK.nrm (Res.zero Tryz.results260) (hE _ hJ)
theorem windowPlaces (L : Chunk) : Fn1 Tryz.prog 250 [] L (fun u L' => u = kfn 260 ∧ L = L') := by
 intro w0; refine Spec.enter0 Tryz.func250 rfl Tryz.ntmps250 ?_
 repeat' (first|refine Ga0 fun _=>?_|refine Ga1 ?_|refine Ga2 (fun _=>?_) fun _=>?_|refine Ga3 ?_|fail)
 exact bodyK.ret (Res.one Tryz.results250) ⟨rfl, rfl⟩
def siteUpto (p : Int) : Nat → Option (Int × Int)
 | 0 => none
 | s + 1 => match siteUpto p s with
  | some x => some x
  | none => if slotKind s p ≠ 0 then some (slotKind s p, (s : Int)) else none
theorem siteUpto_some {p : Int} {x : Int × Int} : ∀ {s : Nat} (t : Nat), siteUpto p s = some x → siteUpto p (s + t) = some x
 | _, 0, h => h
 | s, t + 1, h => by
  have := siteUpto_some t h
  show (match siteUpto p (s + t) with | some x => some x | none => _) = _
  rw [this]
theorem site_upto (p : Int) : (siteUpto p 4).getD (0, 0) = site p := by
 simp only [siteUpto, site]
 repeat' split
 all_goals simp_all
theorem ofVP (j s p : Int) (fv : Value) (sf : Sng fv) (h : 0 ≤ s ∧ s < 4) (hp : 0 ≤ p ∧ p < 65536) (b1 b2 : Nat) (L L' : Chunk) [hm : MemC L L'] [h1 : InC L b1 (.cells #[.int .i64 s] 218 (0, 0))] [h2 : InC L b2 (.cells #[.int .i64 p] 3 (0, 0))]
  (hv : ∀ L, VP Tryz.prog fv [.agg #[.int .i64 s], .int .i64 p, .int .i64 (p - 4096 * (s + 1))] L (fun u L' => (∃ k s' c q, u = .tuple #[siteV k s' c q, .bool (kindB j s p)]) ∧ L = L') noPanic) :
  VP Tryz.prog (.func (.func 253) #[] #[.pointer (some ⟨b1, 0, none⟩), .pointer (some ⟨b2, 0, none⟩)]) [.agg #[.int .i64 j, fv]] L' (fun u L'' => (∃ c q, u = .tuple #[siteV j s c q, .bool (kindB j s p)]) ∧ L' = L'') noPanic :=
 FnP.vp (first := #[]) (cap := #[.pointer (some ⟨b1, 0, none⟩), .pointer (some ⟨b2, 0, none⟩)]) (@ofOne j s p fv sf h hp b1 b2 L' ⟨hm.out _ h1.out⟩ ⟨hm.out _ h2.out⟩ hv)
theorem windowOf (p : Int) (hp : 0 ≤ p ∧ p < 65536) (L : Chunk) : Fn1 Tryz.prog 222 [.int .i64 p] L (fun u L' => (∃ c q, u = .tuple #[siteV (site p).1 (site p).2 c q, .int .i64 0]) ∧ L = L') := by
 intro w0; refine Spec.enterM1 Tryz.func222 rfl Tryz.ntmps222 (by decide) ?_
 have hp' := hp
 obtain ⟨p1, p2⟩ := hp'
 repeat' (first|refine Ge0 fun _=>?_|refine Ge1 ?_|refine Ge2 (fun _=>?_) fun _=>?_|refine Ge3 ?_|refine Ge4 fun _=>?_|fail)
 refine OW.call (windowFits 65536 _ _ _ (Rd.blk (b := _) (l := [_]) rfl (Nat.le_refl _))) ?_
 rintro _ _ ⟨rfl, rfl⟩
 rw [decide_eq_true hp]
 repeat' (first|refine Ge0 fun _=>?_|refine Ge1 ?_|refine Ge2 (fun _=>?_) fun _=>?_|refine Ge3 ?_|refine Ge4 fun _=>?_|fail)
 rename_i bp bs bx
 refine OW.call (windowPlaces _) ?_
 rintro _ _ ⟨rfl, rfl⟩
 refine OW.drop (L' := (bs, .cells #[.int .i64 0, .int .i64 0, .int .i64 0, .int .i64 0] 274 (0, 0)) :: (bp, .cells #[.int .i64 p] 3 (0, 0)) :: L) (List.sublist_cons_self ..) ?_
 repeat' (first|refine Ge0 fun _=>?_|refine Ge1 ?_|refine Ge2 (fun _=>?_) fun _=>?_|refine Ge3 ?_|refine Ge4 fun _=>?_|fail)
 refine CW.rangeFunc (fun lp DD rec hrec => ?_)
 refine (places1 (.func (.yield lp) #[] #[])
  (fun s Lx => (∃ N, Lx = N ++ (lp, rec .ready none) :: (DD, .deferred (some [])) :: (bs, .cells #[.int .i64 0, .int .i64 0, .int .i64 0, .int .i64 0] 274 (0, 0)) :: (bp, .cells #[.int .i64 p] 3 (0, 0)) :: L) ∧ siteUpto p s = none)
  (fun Lx => (∃ N, Lx = N ++ (lp, rec .ready none) :: (DD, .deferred (some [])) :: (bs, .cells #[.int .i64 0, .int .i64 0, .int .i64 0, .int .i64 0] 274 (0, 0)) :: (bp, .cells #[.int .i64 p] 3 (0, 0)) :: L ∧ siteUpto p 4 = none) ∨
   (∃ N k s c q, Lx = N ++ (lp, rec .done (some (.exit 0))) :: (DD, .deferred (some [])) :: (bs, .cells #[.int .i64 k, .int .i64 s, .int .i64 c, .int .i64 q] 274 (0, 0)) :: (bp, .cells #[.int .i64 p] 3 (0, 0)) :: L ∧ siteUpto p 4 = some (k, s)))
  _ ⟨⟨[], rfl⟩, rfl⟩ ?_ ?_ w0).mono ?_ (fun _ _ h => h.elim)
 ·rintro s _ hs ⟨⟨N, rfl⟩, hnone⟩
  refine VP.yield1 hrec (by decide) (fun w0 => ?_)
  repeat' (first|refine Ge0 fun _=>?_|refine Ge1 ?_|refine Ge2 (fun _=>?_) fun _=>?_|refine Ge3 ?_|refine Ge4 fun _=>?_|fail)
  refine beginR ?_
  repeat' (first|refine Ge0 fun _=>?_|refine Ge1 ?_|refine Ge2 (fun _=>?_) fun _=>?_|refine Ge3 ?_|refine Ge4 fun _=>?_|fail)
  rename_i b4
  refine OW.call (windowKinds _) ?_
  rintro _ _ ⟨bk, rfl, rfl⟩
  repeat' (first|refine Ge0 fun _=>?_|refine Ge1 ?_|refine Ge2 (fun _=>?_) fun _=>?_|refine Ge3 ?_|refine Ge4 fun _=>?_|fail)
  have hs4 : 0 ≤ (s : Int) ∧ (s : Int) < 4 := by omega
  refine OW.call (windowFirst (s : Int) p bk _ ii _ ?_ ?_ ?_ ?_) ?_
  ·exact fun L' hm => @ofVP 1 s p _ ii hs4 hp b4 bp _ L' hm ii ii (fun L => FnP.vp (first := #[]) (cap := #[]) (kinds1 s p _ hs4 (by omega) L))
  ·exact fun L' hm => @ofVP 2 s p _ ii hs4 hp b4 bp _ L' hm ii ii (fun L => FnP.vp (first := #[]) (cap := #[]) (kinds2 s p _ (by omega) L))
  ·exact fun L' hm => @ofVP 3 s p _ ii hs4 hp b4 bp _ L' hm ii ii (fun L => FnP.vp (first := #[]) (cap := #[]) (kinds3 s p _ L))
  ·exact fun L' hm => @ofVP 4 s p _ ii hs4 hp b4 bp _ L' hm ii ii (fun L => FnP.vp (first := #[]) (cap := #[]) (kinds4 s p _ L))
  rintro _ _ ⟨⟨s', c, q, rfl, hs'⟩, rfl⟩
  by_cases hk : slotKind s p ≠ 0
  ·rw [decide_eq_true hk]
   obtain rfl := hs' hk
   repeat' (first|refine Ge0 fun _=>?_|refine Ge1 ?_|refine Ge2 (fun _=>?_) fun _=>?_|refine Ge3 ?_|refine Ge4 fun _=>?_|fail)
   refine roundK.exit ?_
   refine .inr ⟨rfl, .inr ⟨_ :: _ :: _ :: N, slotKind s p, s, c, q, rfl, ?_⟩⟩
   have h1 : siteUpto p (s + 1) = some (slotKind (s : Int) p, (s : Int)) := by simp only [siteUpto, hnone, if_pos hk]
   have h2 := siteUpto_some (3 - s) h1
   rwa [show s + 1 + (3 - s) = 4 by omega] at h2
  ·rw [decide_eq_false hk]
   repeat' (first|refine Ge0 fun _=>?_|refine Ge1 ?_|refine Ge2 (fun _=>?_) fun _=>?_|refine Ge3 ?_|refine Ge4 fun _=>?_|fail)
   refine roundK.nrm ?_
   exact .inl ⟨rfl, ⟨_ :: _ :: _ :: N, rfl⟩, by simp only [siteUpto, hnone, if_neg hk]⟩
 ·rintro _ ⟨⟨N, rfl⟩, hn⟩
  exact .inl ⟨N, rfl, hn⟩
 ·rintro u _ (⟨N, rfl, hn⟩ | ⟨N, k, s, c, q, rfl, hn⟩)
  ·refine rangeK.nrm ?_
   repeat' (first|refine Ge0 fun _=>?_|refine Ge1 ?_|refine Ge2 (fun _=>?_) fun _=>?_|refine Ge3 ?_|refine Ge4 fun _=>?_|fail)
   refine bodyM.retM L (Res.of2 Tryz.results222) ⟨?_, rfl⟩
   have := site_upto p
   rw [hn] at this
   exact ⟨_, _, by rw [← this]; rfl⟩
  ·refine rangeK.jump (c := .exit 0) ?_
   repeat' (first|refine Ge0 fun _=>?_|refine Ge1 ?_|refine Ge2 (fun _=>?_) fun _=>?_|refine Ge3 ?_|refine Ge4 fun _=>?_|fail)
   refine bodyM.retM L (Res.of2 Tryz.results222) ⟨?_, rfl⟩
   have := site_upto p
   rw [hn] at this
   exact ⟨_, _, by rw [← this]; rfl⟩
theorem and_mask (n : Int) (k : Nat) (hk : k ≤ 63) (h0 : 0 ≤ n) (h1 : n < 18446744073709551616) : bitsV .and .u64 n ((2 ^ k - 1 : Nat) : Int) = n % (2 ^ k : Nat) := by
 obtain ⟨a, rfl⟩ := Int.eq_ofNat_of_zero_le h0
 have ha : a < 2 ^ 64 := by omega
 have hm : 2 ^ k - 1 < 2 ^ 64 := by have : 2 ^ k ≤ 2 ^ 63 := Nat.pow_le_pow_right (by decide) hk; omega
 have e1 : BitVec.ofInt 64 ((a : Nat) : Int) = BitVec.ofNat 64 a := BitVec.ofInt_natCast 64 a
 have e2 : BitVec.ofInt 64 ((2 ^ k - 1 : Nat) : Int) = BitVec.ofNat 64 (2 ^ k - 1) := BitVec.ofInt_natCast 64 _
 have e3 : (BitVec.ofNat 64 a &&& BitVec.ofNat 64 (2 ^ k - 1)).toNat = a % 2 ^ k := by
  rw [BitVec.toNat_and, BitVec.toNat_ofNat, BitVec.toNat_ofNat, Nat.mod_eq_of_lt ha, Nat.mod_eq_of_lt hm, Nat.and_two_pow_sub_one_eq_mod]
 have e4 : bitsV .and .u64 ((a : Nat) : Int) ((2 ^ k - 1 : Nat) : Int) = IntKind.u64.wrap ((BitVec.ofInt 64 ((a : Nat) : Int) &&& BitVec.ofInt 64 ((2 ^ k - 1 : Nat) : Int)).toNat : Int) := rfl
 have h5 : a % 2 ^ k ≤ a := Nat.mod_le _ _
 have h6 : (a : Int) % ((2 ^ k : Nat) : Int) = ((a % 2 ^ k : Nat) : Int) := (Int.natCast_emod a (2 ^ k)).symm
 rw [e4, e1, e2, e3, wrap_in (k := .u64) (by constructor <;> omega)]
 simpa using h6.symm
theorem and32 {n : Int} (h0 : 0 ≤ n) (h1 : n < 18446744073709551616) : bitsV .and .u64 n 4294967295 = n % 4294967296 := by
 have := and_mask n 32 (by decide) h0 h1
 simpa using this
theorem shr32 {n : Int} : shrV .u64 n 32 = n / 4294967296 := by
 unfold shrV
 rw [show min (32 : Int).toNat IntKind.u64.bits = 32 from rfl, show (2 : Int) ^ 32 = 4294967296 from rfl, Int.fdiv_eq_ediv_of_nonneg _ (by decide)]
def popE (n : Int) : Int :=
 let w := IntKind.u64.wrap
 let a := w (bitsV .and .u64 (shrV .u64 n 1) 6148914691236517205 + bitsV .and .u64 n 6148914691236517205)
 let b := w (bitsV .and .u64 (shrV .u64 a 2) 3689348814741910323 + bitsV .and .u64 a 3689348814741910323)
 let c := bitsV .and .u64 (w (shrV .u64 b 4 + b)) 1085102592571150095
 let d := w (c + shrV .u64 c 8)
 let e := w (d + shrV .u64 d 16)
 let f := w (e + shrV .u64 e 32)
 bitsV .and .i64 (IntKind.i64.wrap f) 127
theorem onesCount (n : Int) (L : Chunk) : Fn1 Tryz.prog 236 [.int .u64 n] L (fun u L' => u = .int .i64 (popE n) ∧ L = L') := by
 intro w0; refine Spec.enter1 Tryz.func236 rfl Tryz.ntmps236 (by decide) ?_
 repeat' (first|refine Ga0 fun _=>?_|refine Ga1 ?_|refine Ga2 (fun _=>?_) fun _=>?_|refine Ga3 ?_|fail)
 exact bodyK.ret (Res.one Tryz.results236) ⟨rfl, rfl⟩
theorem pop_small : ∀ i : Fin 257, (decide (popE ((i.val : Nat) : Int) = 1) = decide (isMult ((i.val : Nat) : Int))) := by decide +kernel
theorem roundPower (n : Int) (h0 : 0 ≤ n) (L : Chunk) : Fn1 Tryz.prog 213 [.int .u64 n] L (fun u L' => (∃ b, u = .bool b ∧ (n ≤ 256 → b = decide (isMult n))) ∧ L = L') := by
 intro w0; refine Spec.enter1 Tryz.func213 rfl Tryz.ntmps213 (by decide) ?_
 have hb : n ≤ 256 → decide (popE n = 1) = decide (isMult n) := fun h => by
  have := pop_small ⟨n.toNat, by omega⟩
  simp only [Int.toNat_of_nonneg h0] at this
  exact this
 repeat' (first|refine Ga0 fun _=>?_|refine Ga1 ?_|refine Ga2 (fun _=>?_) fun _=>?_|refine Ga3 ?_|fail)
 refine OW.call (onesCount n _) ?_
 rintro _ _ ⟨rfl, rfl⟩
 repeat' (first|refine Ga0 fun _=>?_|refine Ga1 ?_|refine Ga2 (fun _=>?_) fun _=>?_|refine Ga3 ?_|fail)
 all_goals refine bodyK.ret (Res.one Tryz.results213) ⟨⟨_, rfl, fun h => ?_⟩, rfl⟩
 ·rw [← hb h]; exact (decide_eq_true (by assumption)).symm
 ·rw [← hb h]; exact (decide_eq_false (by assumption)).symm
theorem sizePayloads (L : Chunk) : Fn1 Tryz.prog 215 [] L (fun u L' => u = .agg #[.int .i64 16, .int .i64 32, .int .i64 48, .int .i64 64, .int .i64 96, .int .i64 128, .int .i64 192, .int .i64 256] ∧ L = L') := by
 intro w0; refine Spec.enter0 Tryz.func215 rfl Tryz.ntmps215 ?_
 repeat' (first|refine Ga0 fun _=>?_|refine Ga1 ?_|refine Ga2 (fun _=>?_) fun _=>?_|refine Ga3 ?_|refine Ga4 fun _=>?_|fail)
 exact bodyK.retD L (Res.of1 Tryz.results215) ⟨rfl, rfl⟩
theorem sizeClass1 (x n : Int) (bo : Nat) (L : Chunk) [hin : InC L bo (.cells #[.int .i64 n] 3 (0, 0))] :
  Fn1 Tryz.prog 238 [.int .i64 x, .pointer (some ⟨bo, 0, none⟩)] L (fun u L' => u = .bool (decide (0 ≤ n ∧ n ≤ x)) ∧ L = L') := by
 intro w0; refine Spec.enter2 Tryz.func238 rfl Tryz.ntmps238 (by decide) ?_
 have h0 := hin
 repeat' (first|refine Ga0 fun _=>?_|refine Ga1 ?_|refine Ga2 (fun _=>?_) fun _=>?_|refine Ga3 ?_|fail)
 all_goals exact bodyK.retD L (Res.one Tryz.results238) ⟨(congrArg Value.bool (by first | exact (decide_eq_true (by omega)).symm | exact (decide_eq_false (by omega)).symm)), rfl⟩
def pays : List Int := [16, 32, 48, 64, 96, 128, 192, 256]
theorem sizeFirst (p : Int → Bool) (v fv : Value) (sv : Sng v) (sf : Sng fv) (L : Chunk) (h : Rd L 1 v pays.length (iv pays)) (hf : ∀ x ∈ pays, VP Tryz.prog fv [.int .i64 x] L (fun u L' => u = .bool (p x) ∧ L = L') noPanic) :
  Fn1 Tryz.prog 237 [fv, v] L (fun u L' => u = .int .i64 ((pays.findIdx? p).elim (-1) fun n => (n : Int)) ∧ L = L') := by
 intro w0; refine Spec.enter2 Tryz.func237 rfl Tryz.ntmps237 (by decide) ?_
 repeat' (first|refine Ga0 fun _=>?_|refine Ga1 ?_|refine Ga2 (fun _=>?_) fun _=>?_|refine Ga3 ?_|fail)
 refine OW.call (indexFuncInt pays p v fv L h (by decide) hf) ?_
 rintro _ _ ⟨rfl, rfl⟩
 repeat' (first|refine Ga0 fun _=>?_|refine Ga1 ?_|refine Ga2 (fun _=>?_) fun _=>?_|refine Ga3 ?_|fail)
 exact bodyK.ret (Res.one Tryz.results237) ⟨rfl, rfl⟩
theorem pays_idx (n : Int) (h : 0 ≤ n) : ((pays.findIdx? fun x => decide (0 ≤ n ∧ n ≤ x)).elim (-1) fun n => (n : Int)) = if n ≤ 256 then clsOf n else -1 := by
 unfold pays clsOf
 simp only [List.findIdx?_cons, List.findIdx?_nil, h, true_and]
 by_cases h1 : n ≤ 16
 ·have h0 : n ≤ 256 := by omega
  simp [h1, h0]
 by_cases h2 : n ≤ 32
 ·have h0 : n ≤ 256 := by omega
  simp [h1, h2, h0]
 by_cases h3 : n ≤ 48
 ·have h0 : n ≤ 256 := by omega
  simp [h1, h2, h3, h0]
 by_cases h4 : n ≤ 64
 ·have h0 : n ≤ 256 := by omega
  simp [h1, h2, h3, h4, h0]
 by_cases h5 : n ≤ 96
 ·have h0 : n ≤ 256 := by omega
  simp [h1, h2, h3, h4, h5, h0]
 by_cases h6 : n ≤ 128
 ·have h0 : n ≤ 256 := by omega
  simp [h1, h2, h3, h4, h5, h6, h0]
 by_cases h7 : n ≤ 192
 ·have h0 : n ≤ 256 := by omega
  simp [h1, h2, h3, h4, h5, h6, h7, h0]
 by_cases h8 : n ≤ 256
 ·simp [h1, h2, h3, h4, h5, h6, h7, h8]
 ·simp [h1, h2, h3, h4, h5, h6, h7, h8]
theorem sizeClass (n : Int) (h : 0 ≤ n) (h1 : n ≤ 262144) (L : Chunk) : Fn1 Tryz.prog 214 [.int .i64 n] L
  (fun u L' => u = .tuple #[.int .i64 (if n ≤ 256 then clsOf n else 0), .bool (decide (n ≤ 256))] ∧ L = L') := by
 intro w0; refine Spec.enter1 Tryz.func214 rfl Tryz.ntmps214 (by decide) ?_
 repeat' (first|refine Ga0 fun _=>?_|refine Ga1 ?_|refine Ga2 (fun _=>?_) fun _=>?_|refine Ga3 ?_|refine Ga4 fun _=>?_|fail)
 rename_i bo
 refine OW.call (sizePayloads _) ?_
 rintro _ _ ⟨rfl, rfl⟩
 repeat' (first|refine Ga0 fun _=>?_|refine Ga1 ?_|refine Ga2 (fun _=>?_) fun _=>?_|refine Ga3 ?_|refine Ga4 fun _=>?_|fail)
 rename_i ba
 refine OW.call (sizeFirst (fun x => decide (0 ≤ n ∧ n ≤ x)) _ _ ii ii _ (Rd.blk (b := ba) (l := iv pays) rfl (Nat.le_refl _)) (fun x _ => FnP.vp (first := #[]) (cap := #[.pointer (some ⟨bo, 0, none⟩)]) (sizeClass1 x n bo _))) ?_
 rintro _ _ ⟨rfl, rfl⟩
 rw [pays_idx n h]
 by_cases h2 : n ≤ 256
 ·have hc := clsOf_range n
  simp only [if_pos h2]
  repeat' (first|refine Ga0 fun _=>?_|refine Ga1 ?_|refine Ga2 (fun _=>?_) fun _=>?_|refine Ga3 ?_|refine Ga4 fun _=>?_|fail)
  exact bodyK.retD L (Res.two Tryz.results214) ⟨by rw [decide_eq_true h2, Int.max_eq_right hc.1], rfl⟩
 ·simp only [if_neg h2]
  repeat' (first|refine Ga0 fun _=>?_|refine Ga1 ?_|refine Ga2 (fun _=>?_) fun _=>?_|refine Ga3 ?_|refine Ga4 fun _=>?_|fail)
  exact bodyK.retD L (Res.two Tryz.results214) ⟨by rw [decide_eq_false h2]; rfl, rfl⟩
theorem stepNone (n : Int) (L : Chunk) : Fn1 Tryz.prog 239 [.int .u64 n] L (fun u L' => u = .bool (decide (n = 0)) ∧ L = L') := by
 intro w0; refine Spec.enter1 Tryz.func239 rfl Tryz.ntmps239 (by decide) ?_
 repeat' (first|refine Ga0 fun _=>?_|refine Ga1 ?_|refine Ga2 (fun _=>?_) fun _=>?_|refine Ga3 ?_|fail)
 all_goals exact bodyK.ret (Res.one Tryz.results239) ⟨(congrArg Value.bool (by first | exact (decide_eq_true (by omega)).symm | exact (decide_eq_false (by omega)).symm)), rfl⟩
theorem numberDown (s n : Int) (hs : 0 < s) (h0 : 0 ≤ n ∧ n ≤ 18446744073709551615) (L : Chunk) : Fn1 Tryz.prog 240 [.agg #[.int .u64 s, .int .u64 n]] L (fun u L' => u = .int .u64 (n - n % s) ∧ L = L') := by
 intro w0; refine Spec.enter1 Tryz.func240 rfl Tryz.ntmps240 (by decide) ?_
 have z1:DrP 1 [0,1,2,3,4,5,6,7,8]:=⟨⟨⟩⟩
 obtain ⟨h1, h2⟩ := h0
 have h3 := Int.emod_nonneg n (by omega : s ≠ 0)
 have h4 : n % s ≤ n := by
  have e := Int.emod_add_mul_ediv n s
  have := Int.mul_nonneg (by omega : 0 ≤ s) (Int.ediv_nonneg h1 (by omega : 0 ≤ s))
  omega
 repeat' (first|refine Gj0 fun _=>?_|refine Gj1 ?_|refine Gj2 (fun _=>?_) fun _=>?_|refine Gj3 ?_|refine Gj4 fun _=>?_|fail)
 exact bodyK.retD L (Res.one Tryz.results240) ⟨rfl, rfl⟩
theorem roundMany (n s : Int) (hs : 0 < s) (hs2 : s ≤ 256) (h0 : 0 ≤ n ∧ n ≤ 262144) (L : Chunk) : Fn1 Tryz.prog 216 [.int .u64 n, .int .u64 s] L (fun u L' => u = .tuple #[.int .u64 (if n % s = 0 then n / s else n / s + 1), .int .i64 0] ∧ L = L') := by
 intro w0; refine Spec.enter2 Tryz.func216 rfl Tryz.ntmps216 (by decide) ?_
 have h0' := h0
 obtain ⟨h1, h2⟩ := h0'
 have h3 := Int.ediv_nonneg h1 (by omega : 0 ≤ s)
 have h4 : n / s ≤ n := Int.ediv_le_self s h1
 have e1 : n / s = n / s := rfl
 repeat' (first|refine Gb0 fun _=>?_|refine Gb1 ?_|refine Gb2 (fun _=>?_) fun _=>?_|refine Gb3 ?_|refine Gb4 fun _=>?_|fail)
 refine OW.call (stepNone s _) ?_
 rintro _ _ ⟨rfl, rfl⟩
 rw [decide_eq_false (by omega : ¬ s = 0)]
 repeat' (first|refine Gb0 fun _=>?_|refine Gb1 ?_|refine Gb2 (fun _=>?_) fun _=>?_|refine Gb3 ?_|refine Gb4 fun _=>?_|fail)
 refine OW.call (numberDown s n hs ⟨h1, by omega⟩ _) ?_
 rintro _ _ ⟨rfl, rfl⟩
 by_cases hm : n % s = 0
 ·repeat' (first|refine Gb0 fun _=>?_|refine Gb1 ?_|refine Gb2 (fun _=>?_) fun _=>?_|refine Gb3 ?_|refine Gb4 fun _=>?_|fail)
  exact bodyK.retD L (Res.two Tryz.results216) ⟨by rw [if_pos hm], rfl⟩
 ·repeat' (first|refine Gb0 fun _=>?_|refine Gb1 ?_|refine Gb2 (fun _=>?_) fun _=>?_|refine Gb3 ?_|refine Gb4 fun _=>?_|fail)
  exact bodyK.retD L (Res.two Tryz.results216) ⟨by rw [if_neg hm], rfl⟩
theorem needV_eq {size : Int} (h : 0 ≤ size) : (if max 1 size % 256 = 0 then max 1 size / 256 else max 1 size / 256 + 1) = (max 1 size + 255) / 256 := by split <;> omega
@[reducible] def needV (o : Option NeedM) : Value := match o with
 | some x => .tuple #[.agg #[.bool x.small, .int .i64 x.cls, .int .i64 x.pages, .int .i64 x.charge], .int .i64 0]
 | none => .tuple #[.agg #[.bool false, .int .i64 0, .int .i64 0, .int .i64 0], .int .i64 2]
theorem sizeOf (size mult : Int) (h : 0 ≤ size) (hm : 0 ≤ mult) (L : Chunk) : Fn1 Tryz.prog 177 [.int .u64 size, .int .u64 mult] L (fun u L' => u = needV (needOf size mult) ∧ L = L') := by
 intro w0; refine Spec.enter2 Tryz.func177 rfl Tryz.ntmps177 (by decide) ?_
 by_cases h1 : 262144 < size
 ·have e : needOf size mult = none := by unfold needOf; rw [if_pos (.inl h1)]
  rw [e]
  repeat' (first|refine Ga0 fun _=>?_|refine Ga1 ?_|refine Ga2 (fun _=>?_) fun _=>?_|refine Ga3 ?_|refine Ga4 fun _=>?_|fail)
  exact bodyK.retD L (Res.of2 Tryz.results177) ⟨rfl, rfl⟩
 ·repeat' (first|refine Ga0 fun _=>?_|refine Ga1 ?_|refine Ga2 (fun _=>?_) fun _=>?_|refine Ga3 ?_|refine Ga4 fun _=>?_|fail)
  refine OW.call (roundPower mult hm _) ?_
  rintro _ _ ⟨⟨b, rfl, hb⟩, rfl⟩
  by_cases h2 : mult ≤ 256
  ·have hb' := hb h2
   subst hb'
   by_cases h3 : isMult mult
   ·rw [decide_eq_true h3]
    have h4 : 1 ≤ max 1 size := by omega
    have h5 : max 1 size ≤ 262144 := by omega
    repeat' (first|refine Ga0 fun _=>?_|refine Ga1 ?_|refine Ga2 (fun _=>?_) fun _=>?_|refine Ga3 ?_|refine Ga4 fun _=>?_|fail)
    have en : needOf size mult = if max 1 size ≤ 256 ∧ mult ≤ 16 then some ⟨true, clsOf (max 1 size), 0, pay (clsOf (max 1 size))⟩ else some ⟨false, 0, (max 1 size + 255) / 256, (max 1 size + 255) / 256 * 256⟩ := by unfold needOf; rw [if_neg (by rintro (h | h); exact h1 h; exact h h3)]
    have hv := needV_eq h
    generalize max 1 size = n at *
    refine OW.call (sizeClass n (by omega) h5 _) ?_
    rintro _ _ ⟨rfl, rfl⟩
    have big : ¬ (n ≤ 256 ∧ mult ≤ 16) → needOf size mult = some ⟨false, 0, (n + 255) / 256, (n + 255) / 256 * 256⟩ := fun h => by rw [en, if_neg h]
    by_cases hs : n ≤ 256
    ·simp only [if_pos hs, decide_eq_true hs]
     by_cases hm16 : mult ≤ 16
     ·rw [en, if_pos ⟨hs, hm16⟩]
      clear en hv big
      repeat' (first|refine Ga0 fun _=>?_|refine Ga1 ?_|refine Ga2 (fun _=>?_) fun _=>?_|refine Ga3 ?_|refine Ga4 fun _=>?_|fail)
      refine OW.call (sizePayloads _) ?_
      rintro _ _ ⟨rfl, rfl⟩
      have hc := clsOf_range n
      generalize clsOf n = k at *
      rcases (show k = 0 ∨ k = 1 ∨ k = 2 ∨ k = 3 ∨ k = 4 ∨ k = 5 ∨ k = 6 ∨ k = 7 by omega) with rfl | rfl | rfl | rfl | rfl | rfl | rfl | rfl
      all_goals
       repeat' (first|refine Ga0 fun _=>?_|refine Ga1 ?_|refine Ga2 (fun _=>?_) fun _=>?_|refine Ga3 ?_|refine Ga4 fun _=>?_|fail)
       exact bodyK.retD L (Res.of2 Tryz.results177) ⟨rfl, rfl⟩
     ·rw [big (by omega)]
      clear en big
      repeat' (first|refine Ga0 fun _=>?_|refine Ga1 ?_|refine Ga2 (fun _=>?_) fun _=>?_|refine Ga3 ?_|refine Ga4 fun _=>?_|fail)
      refine OW.call (roundMany n 256 (by decide) (by decide) ⟨by omega, h5⟩ _) ?_
      rintro _ _ ⟨rfl, rfl⟩
      rw [hv]
      repeat' (first|refine Ga0 fun _=>?_|refine Ga1 ?_|refine Ga2 (fun _=>?_) fun _=>?_|refine Ga3 ?_|refine Ga4 fun _=>?_|fail)
      exact bodyK.retD L (Res.of2 Tryz.results177) ⟨rfl, rfl⟩
    ·rw [big (by omega)]
     clear en big
     simp only [if_neg hs, decide_eq_false hs]
     repeat' (first|refine Ga0 fun _=>?_|refine Ga1 ?_|refine Ga2 (fun _=>?_) fun _=>?_|refine Ga3 ?_|refine Ga4 fun _=>?_|fail)
     refine OW.call (roundMany n 256 (by decide) (by decide) ⟨by omega, h5⟩ _) ?_
     rintro _ _ ⟨rfl, rfl⟩
     rw [hv]
     repeat' (first|refine Ga0 fun _=>?_|refine Ga1 ?_|refine Ga2 (fun _=>?_) fun _=>?_|refine Ga3 ?_|refine Ga4 fun _=>?_|fail)
     exact bodyK.retD L (Res.of2 Tryz.results177) ⟨rfl, rfl⟩
   ·rw [decide_eq_false h3]
    have e : needOf size mult = none := by unfold needOf; rw [if_pos (.inr h3)]
    rw [e]
    repeat' (first|refine Ga0 fun _=>?_|refine Ga1 ?_|refine Ga2 (fun _=>?_) fun _=>?_|refine Ga3 ?_|refine Ga4 fun _=>?_|fail)
    exact bodyK.retD L (Res.of2 Tryz.results177) ⟨rfl, rfl⟩
  ·have e : needOf size mult = none := by unfold needOf; rw [if_pos (.inr (by unfold isMult; omega))]
   rw [e]
   cases b
   ·repeat' (first|refine Ga0 fun _=>?_|refine Ga1 ?_|refine Ga2 (fun _=>?_) fun _=>?_|refine Ga3 ?_|refine Ga4 fun _=>?_|fail)
    exact bodyK.retD L (Res.of2 Tryz.results177) ⟨rfl, rfl⟩
   ·repeat' (first|refine Ga0 fun _=>?_|refine Ga1 ?_|refine Ga2 (fun _=>?_) fun _=>?_|refine Ga3 ?_|refine Ga4 fun _=>?_|fail)
    exact bodyK.retD L (Res.of2 Tryz.results177) ⟨rfl, rfl⟩
theorem mul64_math (x y : Int) (hx : 0 ≤ x ∧ x < 18446744073709551616) (hy : 0 ≤ y ∧ y < 18446744073709551616) :
  let x0 := x % 4294967296; let x1 := x / 4294967296; let y0 := y % 4294967296; let y1 := y / 4294967296
  0 ≤ x0 * y0 ∧ x0 * y0 ≤ 18446744065119617025 ∧ 0 ≤ x1 * y0 ∧ x1 * y0 ≤ 18446744065119617025 ∧ 0 ≤ x0 * y1 ∧ x0 * y1 ≤ 18446744065119617025 ∧ 0 ≤ x1 * y1 ∧ x1 * y1 ≤ 18446744065119617025 ∧
  x * y = x1 * y1 * 18446744073709551616 + (x1 * y0 + x0 * y1) * 4294967296 + x0 * y0 := by
 intro x0 x1 y0 y1
 have hx0 : 0 ≤ x0 ∧ x0 ≤ 4294967295 := by omega
 have hx1 : 0 ≤ x1 ∧ x1 ≤ 4294967295 := by omega
 have hy0 : 0 ≤ y0 ∧ y0 ≤ 4294967295 := by omega
 have hy1 : 0 ≤ y1 ∧ y1 ≤ 4294967295 := by omega
 have pos : ∀ {a b : Int}, 0 ≤ a ∧ a ≤ 4294967295 → 0 ≤ b ∧ b ≤ 4294967295 → 0 ≤ a * b ∧ a * b ≤ 18446744065119617025 := fun {a b} ha hb => by
  have h1 := Int.mul_nonneg ha.1 hb.1
  have h2 : a * b ≤ 4294967295 * 4294967295 := Int.mul_le_mul ha.2 hb.2 hb.1 (by decide)
  exact ⟨h1, h2⟩
 have ex : x = x1 * 4294967296 + x0 := by omega
 have ey : y = y1 * 4294967296 + y0 := by omega
 refine ⟨(pos hx0 hy0).1, (pos hx0 hy0).2, (pos hx1 hy0).1, (pos hx1 hy0).2, (pos hx0 hy1).1, (pos hx0 hy1).2, (pos hx1 hy1).1, (pos hx1 hy1).2, ?_⟩
 rw [ex, ey]
 generalize x1 = a
 generalize x0 = b
 generalize y1 = c
 generalize y0 = d
 simp only [Int.add_mul, Int.mul_add]
 have e1 : a * 4294967296 * (c * 4294967296) = a * c * 18446744073709551616 := by
  rw [Int.mul_assoc a, Int.mul_left_comm 4294967296 c, ← Int.mul_assoc a]; rfl
 have e2 : b * (c * 4294967296) = b * c * 4294967296 := by rw [Int.mul_assoc]
 have e3 : a * 4294967296 * d = a * d * 4294967296 := by rw [Int.mul_assoc, Int.mul_comm 4294967296, Int.mul_assoc]
 rw [e1, e2, e3]
 omega
def mulHi (x y : Int) : Int :=
 let w := IntKind.u64.wrap
 let x0 := bitsV .and .u64 x 4294967295
 let x1 := shrV .u64 x 32
 let y0 := bitsV .and .u64 y 4294967295
 let y1 := shrV .u64 y 32
 let t := w (w (x1 * y0) + shrV .u64 (w (x0 * y0)) 32)
 let w1 := w (bitsV .and .u64 t 4294967295 + w (x0 * y1))
 w (w (w (x1 * y1) + shrV .u64 t 32) + shrV .u64 w1 32)
theorem mulHi_eq (x y : Int) (hx : 0 ≤ x ∧ x < 18446744073709551616) (hy : 0 ≤ y ∧ y < 18446744073709551616) : mulHi x y = x * y / 18446744073709551616 := by
 have hm := mul64_math x y hx hy
 simp only at hm
 obtain ⟨a1, a2, b1, b2, c1, c2, d1, d2, e⟩ := hm
 unfold mulHi
 simp only [and32 hx.1 hx.2, and32 hy.1 hy.2, shr32]
 generalize x % 4294967296 * (y % 4294967296) = p00 at *
 generalize x / 4294967296 * (y % 4294967296) = p10 at *
 generalize x % 4294967296 * (y / 4294967296) = p01 at *
 generalize x / 4294967296 * (y / 4294967296) = p11 at *
 have w1 : IntKind.u64.wrap p00 = p00 := wrap_in (k := .u64) (by constructor <;> omega)
 have w2 : IntKind.u64.wrap p10 = p10 := wrap_in (k := .u64) (by constructor <;> omega)
 have w3 : IntKind.u64.wrap p01 = p01 := wrap_in (k := .u64) (by constructor <;> omega)
 have w4 : IntKind.u64.wrap p11 = p11 := wrap_in (k := .u64) (by constructor <;> omega)
 have w5 : IntKind.u64.wrap (p10 + p00 / 4294967296) = p10 + p00 / 4294967296 := wrap_in (k := .u64) (by constructor <;> omega)
 rw [w1, w2, w3, w4, w5]
 rw [and32 (by omega) (by omega)]
 have w6 : IntKind.u64.wrap ((p10 + p00 / 4294967296) % 4294967296 + p01) = (p10 + p00 / 4294967296) % 4294967296 + p01 := wrap_in (k := .u64) (by constructor <;> omega)
 rw [w6]
 have w7 : IntKind.u64.wrap (p11 + (p10 + p00 / 4294967296) / 4294967296) = p11 + (p10 + p00 / 4294967296) / 4294967296 := wrap_in (k := .u64) (by constructor <;> omega)
 rw [w7]
 rw [wrap_in (k := .u64) (by constructor <;> omega)]
 omega
theorem mul64 (x y : Int) (hx : 0 ≤ x ∧ x < 18446744073709551616) (hy : 0 ≤ y ∧ y < 18446744073709551616) (L : Chunk) :
  Fn1 Tryz.prog 247 [.int .u64 x, .int .u64 y] L (fun u L' => u = .tuple #[.int .u64 (x * y / 18446744073709551616), .int .u64 (IntKind.u64.wrap (x * y))] ∧ L = L') := by
 rw [← mulHi_eq x y hx hy]
 clear hx hy
 intro w0; refine Spec.enter2 Tryz.func247 rfl Tryz.ntmps247 (by decide) ?_
 repeat' (first|refine Ga0 fun _=>?_|refine Ga1 ?_|refine Ga2 (fun _=>?_) fun _=>?_|refine Ga3 ?_|fail)
 exact bodyK.retD L (Res.two Tryz.results247) ⟨rfl, rfl⟩
theorem bitsMul (x y : Int) (hx : 0 ≤ x ∧ x < 18446744073709551616) (hy : 0 ≤ y ∧ y < 18446744073709551616) (L : Chunk) :
  Fn1 Tryz.prog 248 [.int .u64 x, .int .u64 y] L (fun u L' => u = .tuple #[.int .u64 (x * y / 18446744073709551616), .int .u64 (IntKind.u64.wrap (x * y))] ∧ L = L') := by
 intro w0; refine Spec.enter2 Tryz.func248 rfl Tryz.ntmps248 (by decide) ?_
 repeat' (first|refine Ga0 fun _=>?_|refine Ga1 ?_|refine Ga2 (fun _=>?_) fun _=>?_|refine Ga3 ?_|fail)
 refine OW.call (mul64 x y hx hy _) ?_
 rintro _ _ ⟨rfl, rfl⟩
 repeat' (first|refine Ga0 fun _=>?_|refine Ga1 ?_|refine Ga2 (fun _=>?_) fun _=>?_|refine Ga3 ?_|fail)
 exact bodyK.retD L (Res.two Tryz.results248) ⟨rfl, rfl⟩
theorem roundMul1 (x y : Int) (hx : 0 ≤ x ∧ x < 18446744073709551616) (hy : 0 ≤ y ∧ y < 18446744073709551616) (L : Chunk) :
  Fn1 Tryz.prog 246 [.int .u64 x, .int .u64 y] L (fun u L' => u = .tuple #[.int .u64 (IntKind.u64.wrap (x * y)), .bool (decide (x * y < 18446744073709551616))] ∧ L = L') := by
 intro w0; refine Spec.enter2 Tryz.func246 rfl Tryz.ntmps246 (by decide) ?_
 have z3:DrP 3 [0,1,2,3,4,5,6]:=⟨⟨⟩⟩
 have h0 : 0 ≤ x * y := Int.mul_nonneg hx.1 hy.1
 repeat' (first|refine Gi0 fun _=>?_|refine Gi1 ?_|refine Gi2 (fun _=>?_) fun _=>?_|refine Gi3 ?_|refine Gi4 fun _=>?_|fail)
 refine OW.call (mul64 x y hx hy _) ?_
 rintro _ _ ⟨rfl, rfl⟩
 by_cases h : x * y < 18446744073709551616
 ·repeat' (first|refine Gi0 fun _=>?_|refine Gi1 ?_|refine Gi2 (fun _=>?_) fun _=>?_|refine Gi3 ?_|refine Gi4 fun _=>?_|fail)
  exact bodyK.retD L (Res.two Tryz.results246) ⟨by rw [decide_eq_true h, wrap_in (k := .u64) (by constructor <;> omega)], rfl⟩
 ·repeat' (first|refine Gi0 fun _=>?_|refine Gi1 ?_|refine Gi2 (fun _=>?_) fun _=>?_|refine Gi3 ?_|refine Gi4 fun _=>?_|fail)
  exact bodyK.retD L (Res.two Tryz.results246) ⟨by rw [decide_eq_false h], rfl⟩
theorem roundTold (n : Int) (b : Bool) (L : Chunk) : Fn1 Tryz.prog 244 [.int .u64 n, .bool b] L (fun u L' => u = .tuple #[.int .u64 (if b then n else 0), .int .i64 (if b then 0 else 120)] ∧ L = L') := by
 intro w0; refine Spec.enter2 Tryz.func244 rfl Tryz.ntmps244 (by decide) ?_
 cases b
 ·repeat' (first|refine Ge0 fun _=>?_|refine Ge1 ?_|refine Ge2 (fun _=>?_) fun _=>?_|refine Ge3 ?_|fail)
  exact bodyK.retD L (Res.two Tryz.results244) ⟨rfl, rfl⟩
 ·repeat' (first|refine Ge0 fun _=>?_|refine Ge1 ?_|refine Ge2 (fun _=>?_) fun _=>?_|refine Ge3 ?_|fail)
  exact bodyK.retD L (Res.two Tryz.results244) ⟨rfl, rfl⟩
theorem roundFolded (a b : Int) (ha : 0 ≤ a ∧ a < 18446744073709551616) (hb : 0 ≤ b ∧ b < 18446744073709551616) (bk : Nat) (L : Chunk) [hk : InC L bk (.cells #[.int .u64 a, .int .u64 b] 47 (0, 0))] :
  Fn1 Tryz.prog 245 [.int .u64 1, kfn 246, .slice (some ⟨bk, 0, none⟩) 2 2] L (fun u L' => u = .tuple #[.int .u64 (if a * b < 18446744073709551616 then a * b else 0), .bool (decide (a * b < 18446744073709551616))] ∧ L = L') := by
 intro w0; refine Spec.enter3 Tryz.func245 rfl Tryz.ntmps245 (by decide) ?_
 have hk' := hk
 have h0 : 0 ≤ a * b := Int.mul_nonneg ha.1 hb.1
 repeat' (first|refine Gc0 fun _=>?_|refine Gc1 ?_|refine Gc2 (fun _=>?_) fun _=>?_|refine Gc3 ?_|fail)
 refine CW.loopU 3 ?_
 repeat' (first|refine Gc0 fun _=>?_|refine Gc1 ?_|refine Gc2 (fun _=>?_) fun _=>?_|refine Gc3 ?_|fail)
 refine OW.call (roundMul1 1 a (by decide) ha _) ?_
 rintro _ _ ⟨rfl, rfl⟩
 rw [Int.one_mul, decide_eq_true ha.2, wrap_in (k := .u64) (by constructor <;> omega)]
 repeat' (first|refine Gc0 fun _=>?_|refine Gc1 ?_|refine Gc2 (fun _=>?_) fun _=>?_|refine Gc3 ?_|fail)
 rw [show ((0 : Int) + 1).toNat = 1 from rfl]
 repeat' (first|refine Gc0 fun _=>?_|refine Gc1 ?_|refine Gc2 (fun _=>?_) fun _=>?_|refine Gc3 ?_|fail)
 refine OW.call (roundMul1 a b ha hb _) ?_
 rintro _ _ ⟨rfl, rfl⟩
 by_cases h : a * b < 18446744073709551616
 ·rw [decide_eq_true h]
  simp only [if_pos h, decide_eq_true h]
  rw [wrap_in (k := .u64) (by constructor <;> omega)]
  repeat' (first|refine Gc0 fun _=>?_|refine Gc1 ?_|refine Gc2 (fun _=>?_) fun _=>?_|refine Gc3 ?_|fail)
  exact bodyK.retD L (Res.two Tryz.results245) ⟨rfl, rfl⟩
 ·rw [decide_eq_false h]
  simp only [if_neg h, decide_eq_false h]
  repeat' (first|refine Gc0 fun _=>?_|refine Gc1 ?_|refine Gc2 (fun _=>?_) fun _=>?_|refine Gc3 ?_|fail)
  exact bodyK.retD L (Res.two Tryz.results245) ⟨rfl, rfl⟩
theorem roundMul (a b : Int) (ha : 0 ≤ a ∧ a < 18446744073709551616) (hb : 0 ≤ b ∧ b < 18446744073709551616) (bk : Nat) (L : Chunk) [hk : InC L bk (.cells #[.int .u64 a, .int .u64 b] 47 (0, 0))] :
  Fn1 Tryz.prog 220 [.slice (some ⟨bk, 0, none⟩) 2 2] L (fun u L' => u = .tuple #[.int .u64 (if a * b < 18446744073709551616 then a * b else 0), .int .i64 (if a * b < 18446744073709551616 then 0 else 120)] ∧ L = L') := by
 intro w0; refine Spec.enter1 Tryz.func220 rfl Tryz.ntmps220 (by decide) ?_
 have hk' := hk
 have h0 : 0 ≤ a * b := Int.mul_nonneg ha.1 hb.1
 by_cases ea : a = 0
 ·subst ea
  simp only [Int.zero_mul, show (0 : Int) < 18446744073709551616 by decide, if_true]
  repeat' (first|refine Gc0 fun _=>?_|refine Gc1 ?_|refine Gc2 (fun _=>?_) fun _=>?_|refine Gc3 ?_|fail)
  refine CW.loopU 3 ?_
  repeat' (first|refine Gc0 fun _=>?_|refine Gc1 ?_|refine Gc2 (fun _=>?_) fun _=>?_|refine Gc3 ?_|fail)
  exact bodyK.retD L (Res.two Tryz.results220) ⟨rfl, rfl⟩
 by_cases eb : b = 0
 ·subst eb
  simp only [Int.mul_zero, show (0 : Int) < 18446744073709551616 by decide, if_true]
  repeat' (first|refine Gc0 fun _=>?_|refine Gc1 ?_|refine Gc2 (fun _=>?_) fun _=>?_|refine Gc3 ?_|fail)
  refine CW.loopU 3 ?_
  repeat' (first|refine Gc0 fun _=>?_|refine Gc1 ?_|refine Gc2 (fun _=>?_) fun _=>?_|refine Gc3 ?_|fail)
  rw [show ((0 : Int) + 1).toNat = 1 from rfl]
  repeat' (first|refine Gc0 fun _=>?_|refine Gc1 ?_|refine Gc2 (fun _=>?_) fun _=>?_|refine Gc3 ?_|fail)
  exact bodyK.retD L (Res.two Tryz.results220) ⟨rfl, rfl⟩
 ·repeat' (first|refine Gc0 fun _=>?_|refine Gc1 ?_|refine Gc2 (fun _=>?_) fun _=>?_|refine Gc3 ?_|fail)
  refine CW.loopU 3 ?_
  repeat' (first|refine Gc0 fun _=>?_|refine Gc1 ?_|refine Gc2 (fun _=>?_) fun _=>?_|refine Gc3 ?_|fail)
  rw [show ((0 : Int) + 1).toNat = 1 from rfl]
  repeat' (first|refine Gc0 fun _=>?_|refine Gc1 ?_|refine Gc2 (fun _=>?_) fun _=>?_|refine Gc3 ?_|fail)
  refine OW.call (roundFolded a b ha hb bk _) ?_
  rintro _ _ ⟨rfl, rfl⟩
  by_cases h : a * b < 18446744073709551616
  ·simp only [if_pos h, decide_eq_true h]
   repeat' (first|refine Gc0 fun _=>?_|refine Gc1 ?_|refine Gc2 (fun _=>?_) fun _=>?_|refine Gc3 ?_|fail)
   refine OW.call (roundTold _ _ _) ?_
   rintro _ _ ⟨rfl, rfl⟩
   repeat' (first|refine Gc0 fun _=>?_|refine Gc1 ?_|refine Gc2 (fun _=>?_) fun _=>?_|refine Gc3 ?_|fail)
   exact bodyK.retD L (Res.two Tryz.results220) ⟨rfl, rfl⟩
  ·simp only [if_neg h, decide_eq_false h]
   repeat' (first|refine Gc0 fun _=>?_|refine Gc1 ?_|refine Gc2 (fun _=>?_) fun _=>?_|refine Gc3 ?_|fail)
   refine OW.call (roundTold _ _ _) ?_
   rintro _ _ ⟨rfl, rfl⟩
   repeat' (first|refine Gc0 fun _=>?_|refine Gc1 ?_|refine Gc2 (fun _=>?_) fun _=>?_|refine Gc3 ?_|fail)
   exact bodyK.retD L (Res.two Tryz.results220) ⟨rfl, rfl⟩
@[reducible] def totalV (o : Option Int) : Value := match o with
 | some t => .tuple #[.int .u64 t, .int .i64 0]
 | none => .tuple #[.int .u64 0, .int .i64 2]
theorem sizeTotal (a b : Int) (ha : 0 ≤ a ∧ a < 18446744073709551616) (hb : 0 ≤ b ∧ b < 18446744073709551616) (L : Chunk) :
  Fn1 Tryz.prog 180 [.int .u64 a, .int .u64 b] L (fun u L' => u = totalV (total a b) ∧ L = L') := by
 intro w0; refine Spec.enter2 Tryz.func180 rfl Tryz.ntmps180 (by decide) ?_
 have h0 : 0 ≤ a * b := Int.mul_nonneg ha.1 hb.1
 repeat' (first|refine Ga0 fun _=>?_|refine Ga1 ?_|refine Ga2 (fun _=>?_) fun _=>?_|refine Ga3 ?_|refine Ga4 fun _=>?_|fail)
 rename_i bk
 refine OW.call (roundMul a b ha hb bk _) ?_
 rintro _ _ ⟨rfl, rfl⟩
 by_cases h : a * b < 18446744073709551616
 ·simp only [if_pos h]
  by_cases h2 : 262144 < a * b
  ·have e : total a b = none := by unfold total; rw [if_pos h2]
   rw [e]
   repeat' (first|refine Ga0 fun _=>?_|refine Ga1 ?_|refine Ga2 (fun _=>?_) fun _=>?_|refine Ga3 ?_|refine Ga4 fun _=>?_|fail)
   exact bodyK.retD L (Res.two Tryz.results180) ⟨rfl, rfl⟩
  ·have e : total a b = some (a * b) := by unfold total; rw [if_neg h2]
   rw [e]
   repeat' (first|refine Ga0 fun _=>?_|refine Ga1 ?_|refine Ga2 (fun _=>?_) fun _=>?_|refine Ga3 ?_|refine Ga4 fun _=>?_|fail)
   exact bodyK.retD L (Res.two Tryz.results180) ⟨rfl, rfl⟩
 ·simp only [if_neg h]
  have e : total a b = none := by unfold total; rw [if_pos (by omega)]
  rw [e]
  repeat' (first|refine Ga0 fun _=>?_|refine Ga1 ?_|refine Ga2 (fun _=>?_) fun _=>?_|refine Ga3 ?_|refine Ga4 fun _=>?_|fail)
  exact bodyK.retD L (Res.two Tryz.results180) ⟨rfl, rfl⟩
end Go.Proofs.YtmnhooepaemlcaaGreat
