/- OrderCalls: true for every input; arguments as before. Part 41. Conditions: none. -/
import Derived.Test.YtmnhooepaemlcaaGreatOC2
import Derived.Test.YtmnhooepaemlcaaGreatOC38
import Derived.Test.YtmnhooepaemlcaaGreatOC39
import Derived.Test.YtmnhooepaemlcaaGreatOC40
set_option linter.all false
namespace Go.Proofs.YtmnhooepaemlcaaGreat
open Go Go.Pw Go.Pw.Sc Go.Pw.Md Go.Pw.Jd Go.Pw.Or
set_option maxRecDepth 100000
set_option maxHeartbeats 4000000
set_option synthInstance.maxHeartbeats 400000
set_option synthInstance.maxSize 2000
attribute [local irreducible] CW OW RW thenK blockK
attribute [local irreducible] scopeK loopK TRW ATW
theorem ls_take {α : Type} {s : Nat} {R : Chunk → List Value → α → Prop} {L : Chunk} {v : Value} {es : List α} (h : LS s R L v es) {k : Nat} (hk : k ≤ es.length) : LS s R L (slV v 0 k s) (es.take k) := by
 obtain ⟨xs, hr, hl⟩ := h.rd
 have h1 := hr.sl (lo := 0) (hi := k) (by omega) hk
 rw [Nat.zero_mul, List.drop_zero, Nat.sub_zero] at h1
 have hk' : (es.take k).length = k := by rw [List.length_take]; omega
 exact ⟨⟨xs.take (k * s), by rw [hk']; exact h1, hl.take k⟩, by rw [hk']; have := h.len; omega⟩
theorem orderCalls (v : Value) (x : Hd) (less : Int) (l : List (Turn × Rp)) (L : Chunk) (hl : LS 24 RoAt L v l) (hx : inR .i64 x.1 ∧ inR .i64 x.2) :
  Fn1 Tryz.prog 6 [v, hdV x, .int .i64 less] L (fun u L' => u = .bool true ∧ L = L') := by
 have sl := hl.sng
 obtain ⟨al, cl, rfl⟩ := hl.slice
 intro w0; refine Spec.enter3 Tryz.func6 rfl Tryz.ntmps6 (by decide) ?_
 repeat' (first|refine Ga0 fun _=>?_|refine Ga1 ?_|refine Ga2 (fun _=>?_) fun _=>?_|refine Ga3 ?_|refine Ga4 fun _=>?_|fail)
 refine OW.call (fit30 _ l 60 _ (LS.to hl (fun c a h => RoAt.to c a h))) ?_
 rintro _ _ ⟨rfl, rfl⟩
 cases hf : fitL l 60 with
 | false =>
  repeat' (first|refine Ga0 fun _=>?_|refine Ga1 ?_|refine Ga2 (fun _=>?_) fun _=>?_|refine Ga3 ?_|refine Ga4 fun _=>?_|fail)
  refine OW.call (works30 _) ?_
  rintro _ _ ⟨rfl, rfl⟩
  repeat' (first|refine Ga0 fun _=>?_|refine Ga1 ?_|refine Ga2 (fun _=>?_) fun _=>?_|refine Ga3 ?_|refine Ga4 fun _=>?_|fail)
  exact bodyK.retD L (Res.one Tryz.results6) ⟨rfl, rfl⟩
 | true =>
  have hfit := hf
  unfold fitL at hfit
  rw [Bool.and_eq_true, List.all_eq_true] at hfit
  obtain ⟨hall, h60⟩ := hfit
  have h60 : (l.length : Int) ≤ 60 := of_decide_eq_true h60
  have works : True := trivial
  by_cases c1 : less < 0
  ·repeat' (first|refine Ga0 fun _=>?_|refine Ga1 ?_|refine Ga2 (fun _=>?_) fun _=>?_|refine Ga3 ?_|refine Ga4 fun _=>?_|fail)
   refine OW.call (works30 _) ?_
   rintro _ _ ⟨rfl, rfl⟩
   repeat' (first|refine Ga0 fun _=>?_|refine Ga1 ?_|refine Ga2 (fun _=>?_) fun _=>?_|refine Ga3 ?_|refine Ga4 fun _=>?_|fail)
   exact bodyK.retD L (Res.one Tryz.results6) ⟨rfl, rfl⟩
  ·by_cases c2 : 2 < less
   ·repeat' (first|refine Ga0 fun _=>?_|refine Ga1 ?_|refine Ga2 (fun _=>?_) fun _=>?_|refine Ga3 ?_|refine Ga4 fun _=>?_|fail)
    refine OW.call (works30 _) ?_
    rintro _ _ ⟨rfl, rfl⟩
    repeat' (first|refine Ga0 fun _=>?_|refine Ga1 ?_|refine Ga2 (fun _=>?_) fun _=>?_|refine Ga3 ?_|refine Ga4 fun _=>?_|fail)
    exact bodyK.retD L (Res.one Tryz.results6) ⟨rfl, rfl⟩
   ·by_cases c3 : (l.length : Int) < less
    ·repeat' (first|refine Ga0 fun _=>?_|refine Ga1 ?_|refine Ga2 (fun _=>?_) fun _=>?_|refine Ga3 ?_|refine Ga4 fun _=>?_|fail)
     refine OW.call (works30 _) ?_
     rintro _ _ ⟨rfl, rfl⟩
     repeat' (first|refine Ga0 fun _=>?_|refine Ga1 ?_|refine Ga2 (fun _=>?_) fun _=>?_|refine Ga3 ?_|refine Ga4 fun _=>?_|fail)
     exact bodyK.retD L (Res.one Tryz.results6) ⟨rfl, rfl⟩
    ·repeat' (first|refine Ga0 fun _=>?_|refine Ga1 ?_|refine Ga2 (fun _=>?_) fun _=>?_|refine Ga3 ?_|refine Ga4 fun _=>?_|fail)
     refine OW.call (parted30 _ l _ (LS.to hl (fun c a h => RoAt.to c a h)) (by omega)) ?_
     rintro _ _ ⟨va, vb, N, rfl, rfl, h1, h2⟩
     have s1 := h1.sng
     have s2 := h2.sng
     obtain ⟨aa, ca, rfl⟩ := h1.slice
     obtain ⟨ab, cb, rfl⟩ := h2.slice
     have hl2 : ((l.map (·.2)).length : Int) = l.length := by simp
     have hin : 0 ≤ ((l.map (·.2)).length : Int) - less ∧ ((l.map (·.2)).length : Int) - less ≤ 60 := by omega
     repeat' (first|refine Ga0 fun _=>?_|refine Ga1 ?_|refine Ga2 (fun _=>?_) fun _=>?_|refine Ga3 ?_|refine Ga4 fun _=>?_|fail)
     obtain ⟨ys, hrd2, _⟩ := h2.rd
     refine OW.slHi hrd2 ⟨by omega, by omega⟩ ?_
     have h3 := ls_take h2 (k := (((l.map (·.2)).length : Int) - less).toNat) (by omega)
     have hb1 : (l.map (·.1)).length ≤ 4096 := by rw [List.length_map]; omega
     have hbt : ∀ t ∈ l.map (·.1), t.obytes.length ≤ 300 := fun t ht => by
      obtain ⟨a, ha, rfl⟩ := List.mem_map.1 ht
      have := (of_decide_eq_true (hall a ha)).1
      omega
     have hbr : ∀ r ∈ (l.map (·.2)).take (((l.map (·.2)).length : Int) - less).toNat, r.obytes.length ≤ 300 := fun r hr => by
      obtain ⟨a, ha, rfl⟩ := List.mem_map.1 (List.mem_of_mem_take hr)
      exact (of_decide_eq_true (hall a ha)).2.2.1
     have s3 := h3.sng
     generalize slV (.slice ab (l.map (·.2)).length cb) 0 (((l.map (·.2)).length : Int) - less).toNat 11 = vr at *
     generalize (l.map (·.2)).take (((l.map (·.2)).length : Int) - less).toNat = rs at *
     generalize l.map (·.1) = ts at *
     repeat' (first|refine Ga0 fun _=>?_|refine Ga1 ?_|refine Ga2 (fun _=>?_) fun _=>?_|refine Ga3 ?_|refine Ga4 fun _=>?_|fail)
     refine OW.call (ocOf1 _ _ ts rs x _ (LS.to h1 (fun c a h => TnAt.to c a h)) (LS.to h3 (fun c a h => RpAt.to c a h)) hx hb1 hbt hbr) ?_
     rintro _ L1 (⟨ha, rfl, rfl⟩ | ⟨ha, w1, N1, rfl, rfl, hw1⟩)
     ·have z1 : askE ts rs x = askE ts rs x := rfl
      have z2 : askQ ts rs x = askQ ts rs x := rfl
      repeat' (first|refine Ga0 fun _=>?_|refine Ga1 ?_|refine Ga2 (fun _=>?_) fun _=>?_|refine Ga3 ?_|refine Ga4 fun _=>?_|fail)
      refine OW.call (ocQuota _ _ ts rs x _ (LS.to h1 (fun c a h => TnAt.to c a h)) (LS.to h3 (fun c a h => RpAt.to c a h)) hx hb1) ?_
      rintro _ _ ⟨rfl, rfl⟩
      repeat' (first|refine Ga0 fun _=>?_|refine Ga1 ?_|refine Ga2 (fun _=>?_) fun _=>?_|refine Ga3 ?_|refine Ga4 fun _=>?_|fail)
      refine OW.call (rOf30 _ _ ts rs x _ (LS.to h1 (fun c a h => TnAt.to c a h)) (LS.to h3 (fun c a h => RpAt.to c a h)) hx hb1) ?_
      rintro _ L2 (⟨hb, rfl, rfl⟩ | ⟨hb, w2, N2, rfl, rfl, hw2⟩)
      rotate_left
      ·exact absurd hb ha
      repeat' (first|refine Ga0 fun _=>?_|refine Ga1 ?_|refine Ga2 (fun _=>?_) fun _=>?_|refine Ga3 ?_|refine Ga4 fun _=>?_|fail)
      refine OW.call (rQuota30 _ _ ts rs x _ (LS.to h1 (fun c a h => TnAt.to c a h)) (LS.to h3 (fun c a h => RpAt.to c a h)) hx hb1) ?_
      rintro _ _ ⟨rfl, rfl⟩
      repeat' (first|refine Ga0 fun _=>?_|refine Ga1 ?_|refine Ga2 (fun _=>?_) fun _=>?_|refine Ga3 ?_|refine Ga4 fun _=>?_|fail)
      refine OW.call (rSame _ _ [] _ ⟨⟨[], ⟨rfl, .inl ⟨⟨_, _, rfl⟩, rfl⟩⟩, rfl⟩, by simp⟩ ⟨⟨[], ⟨rfl, .inl ⟨⟨_, _, rfl⟩, rfl⟩⟩, rfl⟩, by simp⟩) ?_
      rintro _ _ ⟨rfl, rfl⟩
      repeat' (first|refine Ga0 fun _=>?_|refine Ga1 ?_|refine Ga2 (fun _=>?_) fun _=>?_|refine Ga3 ?_|refine Ga4 fun _=>?_|fail)
      refine OW.call (num30 _ _) ?_
      rintro _ _ ⟨rfl, rfl⟩
      repeat' (first|refine Ga0 fun _=>?_|refine Ga1 ?_|refine Ga2 (fun _=>?_) fun _=>?_|refine Ga3 ?_|refine Ga4 fun _=>?_|fail)
      refine OW.call (num30 _ _) ?_
      rintro _ _ ⟨rfl, rfl⟩
      repeat' (first|refine Ga0 fun _=>?_|refine Ga1 ?_|refine Ga2 (fun _=>?_) fun _=>?_|refine Ga3 ?_|refine Ga4 fun _=>?_|fail)
      refine OW.call (works30 _) ?_
      rintro _ _ ⟨rfl, rfl⟩
      repeat' (first|refine Ga0 fun _=>?_|refine Ga1 ?_|refine Ga2 (fun _=>?_) fun _=>?_|refine Ga3 ?_|refine Ga4 fun _=>?_|fail)
      exact bodyK.retD L (Res.one Tryz.results6) ⟨rfl, rfl⟩
     ·have sw1 := hw1.sng
      have z1 : (0 : Int) = 0 := rfl
      have z2 : askQ ts rs x = askQ ts rs x := rfl
      have z3 : askE ts rs x = 0 := ha
      repeat' (first|refine Ga0 fun _=>?_|refine Ga1 ?_|refine Ga2 (fun _=>?_) fun _=>?_|refine Ga3 ?_|refine Ga4 fun _=>?_|fail)
      refine OW.call (ocQuota _ _ ts rs x _ (LS.to h1 (fun c a h => TnAt.to c a h)) (LS.to h3 (fun c a h => RpAt.to c a h)) hx hb1) ?_
      rintro _ _ ⟨rfl, rfl⟩
      rw [ha]
      repeat' (first|refine Ga0 fun _=>?_|refine Ga1 ?_|refine Ga2 (fun _=>?_) fun _=>?_|refine Ga3 ?_|refine Ga4 fun _=>?_|fail)
      refine OW.call (rOf30 _ _ ts rs x _ (LS.to h1 (fun c a h => TnAt.to c a h)) (LS.to h3 (fun c a h => RpAt.to c a h)) hx hb1) ?_
      rintro _ L2 (⟨hb, rfl, rfl⟩ | ⟨hb, w2, N2, rfl, rfl, hw2⟩)
      ·exact absurd ha hb
      have sw2 := hw2.sng
      repeat' (first|refine Ga0 fun _=>?_|refine Ga1 ?_|refine Ga2 (fun _=>?_) fun _=>?_|refine Ga3 ?_|refine Ga4 fun _=>?_|fail)
      refine OW.call (rQuota30 _ _ ts rs x _ (LS.to h1 (fun c a h => TnAt.to c a h)) (LS.to h3 (fun c a h => RpAt.to c a h)) hx hb1) ?_
      rintro _ _ ⟨rfl, rfl⟩
      rw [ha]
      repeat' (first|refine Ga0 fun _=>?_|refine Ga1 ?_|refine Ga2 (fun _=>?_) fun _=>?_|refine Ga3 ?_|refine Ga4 fun _=>?_|fail)
      refine OW.call (rSame _ _ _ _ (LS.to hw1 (fun c a h => TdAt.to c a h)) (LS.to hw2 (fun c a h => TdAt.to c a h))) ?_
      rintro _ _ ⟨rfl, rfl⟩
      repeat' (first|refine Ga0 fun _=>?_|refine Ga1 ?_|refine Ga2 (fun _=>?_) fun _=>?_|refine Ga3 ?_|refine Ga4 fun _=>?_|fail)
      refine OW.call (num30 _ _) ?_
      rintro _ _ ⟨rfl, rfl⟩
      repeat' (first|refine Ga0 fun _=>?_|refine Ga1 ?_|refine Ga2 (fun _=>?_) fun _=>?_|refine Ga3 ?_|refine Ga4 fun _=>?_|fail)
      refine OW.call (num30 _ _) ?_
      rintro _ _ ⟨rfl, rfl⟩
      repeat' (first|refine Ga0 fun _=>?_|refine Ga1 ?_|refine Ga2 (fun _=>?_) fun _=>?_|refine Ga3 ?_|refine Ga4 fun _=>?_|fail)
      refine OW.call (works30 _) ?_
      rintro _ _ ⟨rfl, rfl⟩
      repeat' (first|refine Ga0 fun _=>?_|refine Ga1 ?_|refine Ga2 (fun _=>?_) fun _=>?_|refine Ga3 ?_|refine Ga4 fun _=>?_|fail)
      exact bodyK.retD L (Res.one Tryz.results6) ⟨rfl, rfl⟩
end Go.Proofs.YtmnhooepaemlcaaGreat
