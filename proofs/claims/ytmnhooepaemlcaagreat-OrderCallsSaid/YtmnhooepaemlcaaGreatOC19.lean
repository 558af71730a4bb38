/- OrderCalls: true for every input; arguments as before. Part 19. Conditions: none. -/
import Derived.Test.YtmnhooepaemlcaaGreatOC2
import Derived.Test.YtmnhooepaemlcaaGreatOC3
import Derived.Test.YtmnhooepaemlcaaGreatOC18
set_option linter.all false
namespace Go.Proofs.YtmnhooepaemlcaaGreat
open Go Go.Pw Go.Pw.Sc Go.Pw.Md Go.Pw.Jd
set_option maxRecDepth 100000
set_option maxHeartbeats 4000000
set_option synthInstance.maxHeartbeats 400000
set_option synthInstance.maxSize 2000
attribute [local irreducible] CW OW RW thenK blockK
attribute [local irreducible] scopeK loopK TRW ATW
theorem jQuota1 (w : Row) (vb vd vo : Value) (at_ : Int) (bp b1 : Nat) (x : Hd) (L : Chunk) [s1 : Sng vb] [s2 : Sng vd] [s3 : Sng vo] [h1 : InC L b1 (.cells #[.int .i64 x.1, .int .i64 x.2] 32 (0, 0))] :
  Fn1 Tryz.prog 101 [.agg (wcells w.t w.r vb vd vo at_ bp).toArray, .pointer (some ⟨b1, 0, none⟩)] L (fun u L' => u = .bool (creates x w) ∧ L = L') := by
 intro w0; refine Spec.enter2 Tryz.func101 rfl Tryz.ntmps101 (by decide) ?_
 have h1' := h1
 have no : ¬ (fine 1 w ∧ (w.r.hslot, w.r.hgen) = x ∧ 0 ≤ w.t.quota ∧ w.t.quota ≤ 1073741824) → creates x w = false := fun h => decide_eq_false h
 repeat' (first|refine Ga0 fun _=>?_|refine Ga1 ?_|refine Ga2 (fun _=>?_) fun _=>?_|refine Ga3 ?_|refine Ga4 fun _=>?_|fail)
 refine OW.call (jFine w.t w.r vb vd vo at_ bp w.b 1 _ w ⟨rfl, rfl⟩) ?_
 rintro _ _ ⟨rfl, rfl⟩
 by_cases c1 : fine 1 w
 ·rw [decide_eq_true c1]
  by_cases c2 : w.r.hslot = x.1 ∧ w.r.hgen = x.2
  ·have c2' : (w.r.hslot, w.r.hgen) = x := Prod.ext c2.1 c2.2
   by_cases c3 : 0 ≤ w.t.quota
   ·by_cases c4 : w.t.quota ≤ 1073741824
    ·rw [show creates x w = true from decide_eq_true ⟨c1, c2', c3, c4⟩]
     repeat' (first|refine Ga0 fun _=>?_|refine Ga1 ?_|refine Ga2 (fun _=>?_) fun _=>?_|refine Ga3 ?_|refine Ga4 fun _=>?_|fail)
     exact bodyK.retD L (Res.one Tryz.results101) ⟨rfl, rfl⟩
    ·rw [no fun h => c4 h.2.2.2]
     repeat' (first|refine Ga0 fun _=>?_|refine Ga1 ?_|refine Ga2 (fun _=>?_) fun _=>?_|refine Ga3 ?_|refine Ga4 fun _=>?_|fail)
     exact bodyK.retD L (Res.one Tryz.results101) ⟨rfl, rfl⟩
   ·rw [no fun h => c3 h.2.2.1]
    repeat' (first|refine Ga0 fun _=>?_|refine Ga1 ?_|refine Ga2 (fun _=>?_) fun _=>?_|refine Ga3 ?_|refine Ga4 fun _=>?_|fail)
    exact bodyK.retD L (Res.one Tryz.results101) ⟨rfl, rfl⟩
  ·rw [no fun h => c2 ⟨congrArg Prod.fst h.2.1, congrArg Prod.snd h.2.1⟩]
   repeat' (first|refine Ga0 fun _=>?_|refine Ga1 ?_|refine Ga2 (fun _=>?_) fun _=>?_|refine Ga3 ?_|refine Ga4 fun _=>?_|fail)
   exact bodyK.retD L (Res.one Tryz.results101) ⟨rfl, rfl⟩
 ·rw [decide_eq_false c1, no fun h => c1 h.1]
  repeat' (first|refine Ga0 fun _=>?_|refine Ga1 ?_|refine Ga2 (fun _=>?_) fun _=>?_|refine Ga3 ?_|refine Ga4 fun _=>?_|fail)
  exact bodyK.retD L (Res.one Tryz.results101) ⟨rfl, rfl⟩


def IdxR (p : Row → Bool) (ws : List Row) (j : Int) : Prop := (j = -1 ∧ ∀ w ∈ ws, p w = false) ∨ ∃ i : Nat, ∃ h : i < ws.length, j = i ∧ p ws[i] = true ∧ ∀ w ∈ ws.take i, p w = false
theorem jIndex (v fv : Value) (ws : List Row) (p : Row → Bool) (sf : Sng fv) (L : Chunk) (hv : LS 26 RwAt L v ws)
    (hf : ∀ w ∈ ws, ∀ vb vd vo bp, Sng vb → Sng vd → Sng vo → VP Tryz.prog fv [.agg (wcells w.t w.r vb vd vo (w.at_ : Int) bp).toArray] L (fun u L' => u = .bool (p w) ∧ L = L') noPanic) :
    Fn1 Tryz.prog 142 [v, fv] L (fun u L' => (∃ j, u = .int .i64 j ∧ IdxR p ws j) ∧ L = L') := by
  have hn := hv.len
  obtain ⟨av, cv, rfl⟩ := hv.slice
  intro w0; refine Spec.enter2 Tryz.func142 rfl Tryz.ntmps142 (by decide) ?_
  repeat' (first|refine Ga0 fun _=>?_|refine Ga1 ?_|refine Ga2 (fun _=>?_) fun _=>?_|refine Ga3 ?_|fail)
  refine CW.count ws.length (fun i ρ ds L' => ds = [] ∧ L' = L ∧ (∀ w ∈ ws.take i, p w = false) ∧ Ev ρ 0 (.slice av ws.length cv) ∧ Ev ρ 1 fv ∧ Ev ρ 7 (.int .i64 (ws.length : Int)) ∧ Ev ρ 8 (.int .i64 (i : Int))) ⟨rfl, rfl, by simp, ii, ii, ii, ii⟩ ?_
  rintro i ρ ds L' hi ⟨rfl, rfl, hg, e0, e1, e7, e8⟩
  by_cases hlt : i < ws.length
  · obtain ⟨bk, kk, capk, lk, ek, frk, hbe, hbin, hbc, hbn⟩ := hv.open (by omega)
    cases hbe
    obtain ⟨cc, hcut, vb, vd, vo, bp, rfl, hvb, hvd, hvo, htr, hrr, hbm⟩ := hbn i hlt
    have q1 := hvb.sng
    have q2 := hvd.sng
    have q3 := hvo.sng
    have hm := List.getElem_mem hlt
    have hvp := hf ws[i] hm vb vd vo bp q1 q2 q3
    have hts := take_step2 hlt
    have hyes : p ws[i] = true → IdxR p ws i := fun h => .inr ⟨i, hlt, rfl, h, hg⟩
    have hnx : p ws[i] = false → ∀ w ∈ ws.take (i + 1), p w = false := fun h w hw => by
      rw [hts] at hw
      rcases List.mem_append.1 hw with hw | hw
      · exact hg w hw
      · rw [List.mem_singleton.1 hw]; exact h
    have hlti : (i : Int) < ws.length := by omega
    generalize ws[i] = w at *
    repeat' (first|refine Ga0 fun _=>?_|refine Ga1 ?_|refine Ga2 (fun _=>?_) fun _=>?_|refine Ga3 ?_|fail)
    refine OW.callV1 hvp ?_
    rintro _ _ ⟨rfl, rfl⟩
    cases hp : p w with
    | true =>
      repeat' (first|refine Ga0 fun _=>?_|refine Ga1 ?_|refine Ga2 (fun _=>?_) fun _=>?_|refine Ga3 ?_|fail)
      exact bodyK.retD L' (Res.one Tryz.results142) ⟨⟨_, rfl, hyes hp⟩, rfl⟩
    | false =>
      repeat' (first|refine Ga0 fun _=>?_|refine Ga1 ?_|refine Ga2 (fun _=>?_) fun _=>?_|refine Ga3 ?_|fail)
      exact ⟨hlt, rfl, rfl, hnx hp, ii, ii, ii, by rw [Int.natCast_add]; infer_instance⟩
  · obtain rfl : i = ws.length := by omega
    rw [List.take_length] at hg
    repeat' (first|refine Ga0 fun _=>?_|refine Ga1 ?_|refine Ga2 (fun _=>?_) fun _=>?_|refine Ga3 ?_|fail)
    exact bodyK.retD L' (Res.one Tryz.results142) ⟨⟨_, rfl, .inl ⟨rfl, hg⟩⟩, rfl⟩
@[reducible] def wzero : List Value := [.int .i64 0, .int .i64 0, .int .i64 0, .int .i64 0, .int .i64 0, .int .i64 0, .int .i64 0, .int .u32 0, .int .u64 0, .int .u64 0, .int .u64 0, .slice none 0 0, .slice none 0 0,
   .int .i64 0, .int .i64 0, .int .i64 0, .int .i64 0, .int .i64 0, .int .i64 0, .bool false, .int .i64 0, .int .u32 0, .int .i64 0, .slice none 0 0, .int .i64 0, .map none]
theorem jFound (v fv : Value) (ws : List Row) (p : Row → Bool) (sf : Sng fv) (L : Chunk) (hv : LS 26 RwAt L v ws)
    (hf : ∀ L', (∀ q ∈ L, q ∈ L') → ∀ w ∈ ws, ∀ vb vd vo bp, Sng vb → Sng vd → Sng vo → VP Tryz.prog fv [.agg (wcells w.t w.r vb vd vo (w.at_ : Int) bp).toArray] L' (fun u L'' => u = .bool (p w) ∧ L' = L'') noPanic) :
    Fn1 Tryz.prog 100 [fv, v] L (fun u L' => (match ws.find? p with
      | some w => ∃ vb vd vo bp, u = .tuple #[.agg (wcells w.t w.r vb vd vo (w.at_ : Int) bp).toArray, .bool true] ∧ Sng vb ∧ Sng vd ∧ Sng vo
      | none => u = .tuple #[.agg wzero.toArray, .bool false]) ∧ L = L') := by
  have hn := hv.len
  have hv' := hv
  obtain ⟨av, cv, rfl⟩ := hv'.slice
  intro w0; refine Spec.enter2 Tryz.func100 rfl Tryz.ntmps100 (by decide) ?_
  repeat' (first|refine Ga0 fun _=>?_|refine Ga1 ?_|refine Ga2 (fun _=>?_) fun _=>?_|refine Ga3 ?_|refine Ga4 fun _=>?_|fail)
  rename_i b4
  refine OW.call (jIndex _ fv ws p sf _ (LS.to hv (fun c a h => RwAt.to c a h)) (hf _ fun q hq => List.mem_cons_of_mem _ hq)) ?_
  rintro _ _ ⟨⟨j, rfl, hj⟩, rfl⟩
  rcases hj with ⟨rfl, hno⟩ | ⟨i, hi, rfl, hpi, hno⟩
  · have hfd : ws.find? p = none := List.find?_eq_none.2 fun w hw => by simp [hno w hw]
    repeat' (first|refine Ga0 fun _=>?_|refine Ga1 ?_|refine Ga2 (fun _=>?_) fun _=>?_|refine Ga3 ?_|refine Ga4 fun _=>?_|fail)
    refine bodyK.retD L (Res.of2 Tryz.results100) ⟨?_, rfl⟩
    rw [hfd]
  · have hfd : ws.find? p = some ws[i] := by
      have e : ws = ws.take i ++ ws[i] :: ws.drop (i + 1) := by rw [← List.drop_eq_getElem_cons hi, List.take_append_drop]
      have h1 : (ws.take i).find? p = none := List.find?_eq_none.2 fun w hw => by simp [hno w hw]
      conv => lhs; rw [e]
      rw [List.find?_append, h1, List.find?_cons_of_pos hpi]
      rfl
    obtain ⟨bk, kk, capk, lk, ek, frk, hbe, hbin, hbc, hbn⟩ := hv.open (by omega)
    cases hbe
    obtain ⟨cc, hcut, vb, vd, vo, bp, rfl, hvb, hvd, hvo, htr, hrr, hbm⟩ := hbn i hi
    have q1 := hvb.sng
    have q2 := hvd.sng
    have q3 := hvo.sng
    clear hpi hno
    repeat' (first|refine Ga0 fun _=>?_|refine Ga1 ?_|refine Ga2 (fun _=>?_) fun _=>?_|refine Ga3 ?_|refine Ga4 fun _=>?_|fail)
    refine bodyK.retD L (Res.of2 Tryz.results100) ⟨?_, rfl⟩
    rw [hfd]
    exact ⟨vb, vd, vo, bp, rfl, q1, q2, q3⟩
theorem jQuota (v : Value) (ws : List Row) (x : Hd) (L : Chunk) (hv : LS 26 RwAt L v ws) (hx : inR .i64 x.1 ∧ inR .i64 x.2) :
    Fn1 Tryz.prog 44 [v, hdV x] L (fun u L' => u = .tuple #[.int .i64 (quotaOf ws x).1, .bool (quotaOf ws x).2] ∧ L = L') := by
  have hn := hv.len
  have hv' := hv
  obtain ⟨av, cv, rfl⟩ := hv'.slice
  intro w0; refine Spec.enter2 Tryz.func44 rfl Tryz.ntmps44 (by decide) ?_
  have z2:DrP 2 [0,1,2,3,4,5,6,7,8,9,10,11,12,13,14,15,16,17,18,19,20]:=⟨⟨⟩⟩
  repeat' (first|refine Gi0 fun _=>?_|refine Gi1 ?_|refine Gi2 (fun _=>?_) fun _=>?_|refine Gi3 ?_|refine Gi4 fun _=>?_|fail)
  rename_i b3
  refine OW.call (jFound _ _ ws (creates x) ii _ (LS.to hv (fun c a h => RwAt.to c a h)) (fun L' hL w hw vb vd vo bp s1 s2 s3 => ?_)) ?_
  · have h1 : InC L' b3 (.cells #[.int .i64 x.1, .int .i64 x.2] 32 (0, 0)) := ⟨hL _ (List.mem_cons_self ..)⟩
    exact FnP.vp (first := #[]) (cap := #[.pointer (some ⟨b3, 0, none⟩)]) (jQuota1 w vb vd vo (w.at_ : Int) bp b3 x L')
  intro u L2 hu
  obtain ⟨hu, rfl⟩ := hu
  unfold quotaOf
  cases hfd : ws.find? (creates x) with
  | none =>
    rw [hfd] at hu
    subst hu
    repeat' (first|refine Gi0 fun _=>?_|refine Gi1 ?_|refine Gi2 (fun _=>?_) fun _=>?_|refine Gi3 ?_|refine Gi4 fun _=>?_|fail)
    exact bodyK.retD L (Res.two Tryz.results44) ⟨rfl, rfl⟩
  | some w =>
    rw [hfd] at hu
    obtain ⟨vb, vd, vo, bp, rfl, q1, q2, q3⟩ := hu
    simp only
    by_cases c1 : 1 ≤ x.2
    · by_cases c2 : 0 ≤ x.1
      · by_cases c3 : x.1 < 4
        · rw [decide_eq_true ⟨c1, c2, c3⟩]
          repeat' (first|refine Gi0 fun _=>?_|refine Gi1 ?_|refine Gi2 (fun _=>?_) fun _=>?_|refine Gi3 ?_|refine Gi4 fun _=>?_|fail)
          exact bodyK.retD L (Res.two Tryz.results44) ⟨rfl, rfl⟩
        · rw [decide_eq_false fun h => c3 h.2.2]
          repeat' (first|refine Gi0 fun _=>?_|refine Gi1 ?_|refine Gi2 (fun _=>?_) fun _=>?_|refine Gi3 ?_|refine Gi4 fun _=>?_|fail)
          exact bodyK.retD L (Res.two Tryz.results44) ⟨rfl, rfl⟩
      · rw [decide_eq_false fun h => c2 h.2.1]
        repeat' (first|refine Gi0 fun _=>?_|refine Gi1 ?_|refine Gi2 (fun _=>?_) fun _=>?_|refine Gi3 ?_|refine Gi4 fun _=>?_|fail)
        exact bodyK.retD L (Res.two Tryz.results44) ⟨rfl, rfl⟩
    · rw [decide_eq_false fun h => c1 h.1]
      repeat' (first|refine Gi0 fun _=>?_|refine Gi1 ?_|refine Gi2 (fun _=>?_) fun _=>?_|refine Gi3 ?_|refine Gi4 fun _=>?_|fail)
      exact bodyK.retD L (Res.two Tryz.results44) ⟨rfl, rfl⟩
theorem lsSl {α : Type} {s : Nat} {R : Chunk → List Value → α → Prop} {L : Chunk} {v : Value} {zs : List α} (h : LS s R L v zs) {lo : Nat} (h1 : lo ≤ zs.length) : LS s R L (slV v lo zs.length s) (zs.drop lo) := by
 obtain ⟨xs, hr, hl⟩ := h.rd
 have drp : ∀ (lo : Nat) (xs : List Value) (zs : List α), lo ≤ zs.length → LAt s (R L) xs zs → LAt s (R L) (xs.drop (lo * s)) (zs.drop lo) := by
  intro lo
  induction lo with
  | zero => intro xs zs _ h; simpa using h
  | succ k ih =>
   intro xs zs hk h
   cases zs with
   | nil => simp at hk
   | cons a zs =>
    obtain ⟨c, r, e, h0, h1, h2⟩ := h
    have e1 : xs.drop ((k + 1) * s) = r.drop (k * s) := by
     rw [e, show (k + 1) * s = c.length + k * s by rw [h0, Nat.add_mul]; omega, ← List.drop_drop, List.drop_left]
    rw [e1]
    exact ih r zs (by simpa using hk) h2
 have hd := drp lo xs zs h1 hl
 refine ⟨⟨xs.drop (lo * s), ?_, hd⟩, ?_⟩
 ·have := Rd.sl hr h1 (Nat.le_refl _)
  have e2 : (xs.drop (lo * s)).take ((zs.length - lo) * s) = xs.drop (lo * s) := List.take_of_length_le (by rw [hd.length, List.length_drop]; exact Nat.le_refl _)
  rw [e2] at this
  rw [List.length_drop]
  exact this
 ·rw [List.length_drop]; have := h.len; omega
@[reducible] def didC (r : Rp) (vo : Value) : List Value := [.int .i64 r.dkind, .int .i64 r.dat, .bool r.done, .int .i64 r.oerrno, .int .u32 r.oad, .int .i64 r.on, vo]
@[reducible] def hCell (v : Value) : Obj := .cells #[v] 115 (0, 0)
@[reducible] def iCell (n : Int) : Obj := .cells #[.int .i64 n] 3 (0, 0)
@[reducible] def xCell (x : Hd) : Obj := .cells #[.int .i64 x.1, .int .i64 x.2] 32 (0, 0)
theorem jSteps (v : Value) (a n : Int) (x : Hd) (L : Chunk) (sv : Sng v) :
  Fn1 Tryz.prog 144 [v, .int .i64 a, .int .i64 n, hdV x] L (fun u L' => ∃ bh ba bn bx, u = .func (.func 175) #[] #[.pointer (some ⟨bh, 0, none⟩), .pointer (some ⟨ba, 0, none⟩), .pointer (some ⟨bn, 0, none⟩), .pointer (some ⟨bx, 0, none⟩)] ∧ L' = (bx, xCell x) :: (bn, iCell n) :: (ba, iCell a) :: (bh, hCell v) :: L) := by
 intro w0; refine Spec.enter4 Tryz.func144 rfl Tryz.ntmps144 (by decide) ?_
 repeat' (first|refine Ga0 fun _=>?_|refine Ga1 ?_|refine Ga2 (fun _=>?_) fun _=>?_|refine Ga3 ?_|refine Ga4 fun _=>?_|fail)
 exact bodyK.ret (Res.one Tryz.results144) ⟨_, _, _, _, rfl, rfl⟩
theorem jPlaces (v : Value) (a n : Int) (x : Hd) (L : Chunk) (sv : Sng v) :
  Fn1 Tryz.prog 104 [v, .int .i64 a, .int .i64 n, hdV x] L (fun u L' => ∃ bh ba bn bx, u = .func (.func 143) #[] #[.pointer (some ⟨ba, 0, none⟩), .pointer (some ⟨bh, 0, none⟩), .pointer (some ⟨bn, 0, none⟩), .pointer (some ⟨bx, 0, none⟩)] ∧ L' = (bx, xCell x) :: (bn, iCell n) :: (ba, iCell a) :: (bh, hCell v) :: L) := by
 intro w0; refine Spec.enter4 Tryz.func104 rfl Tryz.ntmps104 (by decide) ?_
 repeat' (first|refine Ga0 fun _=>?_|refine Ga1 ?_|refine Ga2 (fun _=>?_) fun _=>?_|refine Ga3 ?_|refine Ga4 fun _=>?_|fail)
 exact bodyK.ret (Res.one Tryz.results104) ⟨_, _, _, _, rfl, rfl⟩
def isStep (n : Int) (w : Row) : Prop := w.t.thread = n ∧ fine 6 w
instance (n : Int) (w : Row) : Decidable (isStep n w) := by unfold isStep; infer_instance
theorem jSteps1 (fv v : Value) (bh ba bn bx : Nat) (ws : List Row) (a : Nat) (n : Int) (x : Hd) (J : Nat → Chunk → Prop) (E : Chunk → Prop) (D L : Chunk) (sf : Sng fv) (hv : LS 26 RwAt D v ws) (ha : a < ws.length) (hJ : J (a + 1) L)
  (hk : ∀ k L', J k L' → MemC D L' ∧ InC L' bh (hCell v) ∧ InC L' ba (iCell a) ∧ InC L' bn (iCell n) ∧ InC L' bx (xCell x) ∧
   (∀ h : k < ws.length, a < k → whose ws[k] n x → isStep n ws[k] → ∀ vo, BS D vo ws[k].r.obytes → VP Tryz.prog fv [.agg (didC ws[k].r vo).toArray] L' (fun u L'' => (u = .bool true ∧ J (k + 1) L'') ∨ (u = .bool false ∧ E L'')) noPanic) ∧
   (∀ h : k < ws.length, a < k → whose ws[k] n x → ¬ isStep n ws[k] → J (k + 1) L') ∧ (∀ h : k < ws.length, a < k → ¬ whose ws[k] n x → E L') ∧ (k = ws.length → E L')) :
  Fn1 Tryz.prog 175 [fv, .pointer (some ⟨bh, 0, none⟩), .pointer (some ⟨ba, 0, none⟩), .pointer (some ⟨bn, 0, none⟩), .pointer (some ⟨bx, 0, none⟩)] L (fun _ L' => E L') := by
 intro w0; refine Spec.enter5 Tryz.func175 rfl Tryz.ntmps175 (by decide) ?_
 obtain ⟨hD, hi1, hi2, hi3, hi4, _, _, _, _⟩ := hk _ L hJ
 have hlen := hv.len
 have hvv := hv
 obtain ⟨av, cv, rfl⟩ := hvv.slice
 have hsl := lsSl hv (lo := a + 1) (by omega)
 obtain ⟨a2, c2, he2⟩ := hsl.slice
 obtain ⟨xs0, hrd0, _⟩ := hv.rd
 repeat' (first|refine Ga0 fun _=>?_|refine Ga1 ?_|refine Ga2 (fun _=>?_) fun _=>?_|refine Ga3 ?_|refine Ga4 fun _=>?_|fail)
 refine OW.slLo (l' := a + 1) (j := (a : Int) + 1) (hj := ⟨by omega⟩) hrd0 (by omega) ?_
 rw [he2]
 have hdl : (ws.drop (a + 1)).length = ws.length - (a + 1) := List.length_drop ..
 have hdz : ((ws.drop (a + 1)).length : Int) ≤ 9223372036854775807 := by omega
 repeat' (first|refine Ga0 fun _=>?_|refine Ga1 ?_|refine Ga2 (fun _=>?_) fun _=>?_|refine Ga3 ?_|refine Ga4 fun _=>?_|fail)
 clear hsl
 refine CW.count (ws.drop (a + 1)).length (fun i ρ ds Lx => ds = [] ∧ (∃ X L', Lx = X ++ L' ∧ J (a + 1 + i) L') ∧ Ev ρ 0 fv ∧ Ev ρ 1 (.pointer (some ⟨bh, 0, none⟩)) ∧ Ev ρ 2 (.pointer (some ⟨ba, 0, none⟩)) ∧ Ev ρ 3 (.pointer (some ⟨bn, 0, none⟩)) ∧ Ev ρ 4 (.pointer (some ⟨bx, 0, none⟩)) ∧ Ev ρ 11 (.slice a2 (ws.drop (a + 1)).length c2) ∧ Ev ρ 12 (.int .i64 ((ws.drop (a + 1)).length : Int)) ∧ Ev ρ 13 (.int .i64 (i : Int)))
  ⟨rfl, ⟨[], L, rfl, hJ⟩, ii, ii, ii, ii, ii, ii, ii, ii⟩ ?_
 clear hD hi1 hi2 hi3 hi4 hJ hrd0
 rintro i ρ ds Lx hi ⟨rfl, ⟨X, L', rfl, hJ⟩, e0, e1, e2, e3, e4, e11, e12, e13⟩
 obtain ⟨hD, hi1, hi2, hi3, hi4, hy, hn, hw, hE⟩ := hk _ L' hJ
 by_cases hlt : i < (ws.drop (a + 1)).length
 ·have hlt' : a + 1 + i < ws.length := by omega
  have hsl := lsSl hv (lo := a + 1) (by omega)
  rw [he2] at hsl
  obtain ⟨bk, kk, capk, lk, ek, frk, hbe, hbin, hbc, hbn⟩ := hsl.open (by omega)
  cases hbe
  obtain ⟨cc, hcut, vb, vd, vo, bp, rfl, hvb, hvd, hvo, htr, hrr, hbm⟩ := hbn i hlt
  have q1 := hvb.sng
  have q2 := hvd.sng
  have q3 := hvo.sng
  have hget : (ws.drop (a + 1))[i] = ws[a + 1 + i] := by rw [List.getElem_drop]
  rw [hget] at hcut hvb hvd hvo htr hrr hbm
  have hy := hy hlt' (by omega)
  have hn := hn hlt' (by omega)
  have hw := hw hlt' (by omega)
  have hlti : (i : Int) < (ws.drop (a + 1)).length := by omega
  generalize ws[a + 1 + i] = w at *
  generalize ws.drop (a + 1) = wd at *
  have hbin' : InC L' bk (.cells lk.toArray ek frk) := ⟨hD.out _ hbin.out⟩
  have hbm' : Bm (X ++ L') bp w.b := hbm.to
  repeat' (first|refine Ga0 fun _=>?_|refine Ga1 ?_|refine Ga2 (fun _=>?_) fun _=>?_|refine Ga3 ?_|refine Ga4 fun _=>?_|fail)
  refine OW.call (jWhose w vb vd vo _ bp n x _ (Bm.to hbm')) ?_
  rintro _ _ ⟨rfl, rfl⟩
  by_cases hwh : whose w n x
  ·rw [decide_eq_true hwh]
   by_cases hth : w.t.thread = n
   ·repeat' (first|refine Ga0 fun _=>?_|refine Ga1 ?_|refine Ga2 (fun _=>?_) fun _=>?_|refine Ga3 ?_|refine Ga4 fun _=>?_|fail)
    refine OW.call (jFine w.t w.r vb vd vo _ bp w.b 6 _ w ⟨rfl, rfl⟩) ?_
    rintro _ _ ⟨rfl, rfl⟩
    by_cases hf : fine 6 w
    ·rw [decide_eq_true hf]
     repeat' (first|refine Ga0 fun _=>?_|refine Ga1 ?_|refine Ga2 (fun _=>?_) fun _=>?_|refine Ga3 ?_|refine Ga4 fun _=>?_|fail)
     refine OW.drop (L' := L') (List.Sublist.cons _ (List.sublist_append_right ..)) ?_
     refine OW.callV1 (hy hwh ⟨hth, hf⟩ vo hvo) ?_
     rintro _ L'' (⟨rfl, hJ'⟩ | ⟨rfl, hE'⟩)
     ·repeat' (first|refine Ga0 fun _=>?_|refine Ga1 ?_|refine Ga2 (fun _=>?_) fun _=>?_|refine Ga3 ?_|refine Ga4 fun _=>?_|fail)
      exact ⟨hlt, rfl, ⟨[], L'', rfl, hJ'⟩, ii, ii, ii, ii, ii, ii, ii, by rw [Int.natCast_add]; infer_instance⟩
     ·repeat' (first|refine Ga0 fun _=>?_|refine Ga1 ?_|refine Ga2 (fun _=>?_) fun _=>?_|refine Ga3 ?_|refine Ga4 fun _=>?_|fail)
      exact bodyK.retD L'' (Res.zero Tryz.results175) hE'
    ·rw [decide_eq_false hf]
     repeat' (first|refine Ga0 fun _=>?_|refine Ga1 ?_|refine Ga2 (fun _=>?_) fun _=>?_|refine Ga3 ?_|refine Ga4 fun _=>?_|fail)
     exact ⟨hlt, rfl, ⟨_ :: X, L', rfl, hn hwh fun h => hf h.2⟩, ii, ii, ii, ii, ii, ii, ii, by rw [Int.natCast_add]; infer_instance⟩
   ·repeat' (first|refine Ga0 fun _=>?_|refine Ga1 ?_|refine Ga2 (fun _=>?_) fun _=>?_|refine Ga3 ?_|refine Ga4 fun _=>?_|fail)
    exact ⟨hlt, rfl, ⟨_ :: X, L', rfl, hn hwh fun h => hth h.1⟩, ii, ii, ii, ii, ii, ii, ii, by rw [Int.natCast_add]; infer_instance⟩
  ·rw [decide_eq_false hwh]
   repeat' (first|refine Ga0 fun _=>?_|refine Ga1 ?_|refine Ga2 (fun _=>?_) fun _=>?_|refine Ga3 ?_|refine Ga4 fun _=>?_|fail)
   exact bodyK.retD L' (Res.zero Tryz.results175) (hw hwh)
 ·obtain rfl : i = (ws.drop (a + 1)).length := by omega
  repeat' (first|refine Ga0 fun _=>?_|refine Ga1 ?_|refine Ga2 (fun _=>?_) fun _=>?_|refine Ga3 ?_|refine Ga4 fun _=>?_|fail)
  exact bodyK.nrmD L' (Res.zero Tryz.results175) (hE (by omega))
theorem cutNth {l c : List Value} {k n : Nat} {v : Value} (j : Nat) (h : CutL l k n c) (hv : c[j]? = some v) : NthL l (k + j) v := ⟨by
 have h2 := h.out.2
 rw [← h2, List.getElem?_take] at hv
 split at hv
 ·rwa [List.getElem?_drop] at hv
 ·cases hv⟩
theorem jPlaces1 (fv v : Value) (bh ba bn bx : Nat) (ws : List Row) (a : Nat) (n : Int) (x : Hd) (J : Nat → Chunk → Prop) (E : Chunk → Prop) (D L : Chunk) (sf : Sng fv) (hv : LS 26 RwAt D v ws) (ha : a < ws.length) (hJ : J (a + 1) L)
  (hk : ∀ k L', J k L' → MemC D L' ∧ InC L' bh (hCell v) ∧ InC L' ba (iCell a) ∧ InC L' bn (iCell n) ∧ InC L' bx (xCell x) ∧
   (∀ h : k < ws.length, a < k → whose ws[k] n x → isStep n ws[k] → ∀ M vo, BS D vo ws[k].r.obytes → VP Tryz.prog fv [.int .i64 (k : Int), .agg (didC ws[k].r vo).toArray] (M ++ L') (fun u L'' => ∃ Y L3, L'' = Y ++ (M ++ L3) ∧ ((u = .bool true ∧ J (k + 1) L3) ∨ (u = .bool false ∧ E L3))) noPanic) ∧
   (∀ h : k < ws.length, a < k → whose ws[k] n x → ¬ isStep n ws[k] → J (k + 1) L') ∧ (∀ h : k < ws.length, a < k → ¬ whose ws[k] n x → E L') ∧ (k = ws.length → E L')) :
  Fn1 Tryz.prog 143 [fv, .pointer (some ⟨ba, 0, none⟩), .pointer (some ⟨bh, 0, none⟩), .pointer (some ⟨bn, 0, none⟩), .pointer (some ⟨bx, 0, none⟩)] L (fun _ L' => E L') := by
 intro w0; refine Spec.enterM5 Tryz.func143 rfl Tryz.ntmps143 (by decide) ?_
 have z5:DrP 5 [0,1,2,3,4,5,6,7,8,9,10,11,12,13,14,15]:=⟨⟨⟩⟩
 obtain ⟨hD, hi1, hi2, hi3, hi4, _, _, _, _⟩ := hk _ L hJ
 have hlen := hv.len
 have sv := hv.sng
 repeat' (first|refine Gi0 fun _=>?_|refine Gi1 ?_|refine Gi2 (fun _=>?_) fun _=>?_|refine Gi3 ?_|refine Gi4 fun _=>?_|fail)
 rename_i b5 b6
 refine OW.call (jSteps v a n x _ sv) ?_
 rintro _ _ ⟨ch, ca, cn, cx, rfl, rfl⟩
 repeat' (first|refine Gi0 fun _=>?_|refine Gi1 ?_|refine Gi2 (fun _=>?_) fun _=>?_|refine Gi3 ?_|refine Gi4 fun _=>?_|fail)
 refine CW.rangeFunc (fun lp DD rec hrec => ?_)
 clear hD hi1 hi2 hi3 hi4
 refine (jSteps1 (.func (.yield lp) #[] #[]) v ch ca cn cx ws a n x
  (fun k Lx => ∃ L' kk, Lx = (lp, rec .ready none) :: (DD, .deferred (some [])) :: (cx, xCell x) :: (cn, iCell n) :: (ca, iCell a) :: (ch, hCell v) :: (b6, iCell (kk : Nat)) :: (b5, .cells #[fv] 256 (0, 0)) :: L' ∧ J k L' ∧ a ≤ kk ∧ kk < k ∧ ∀ i, kk < i → i < k → ∀ h : i < ws.length, ¬ isStep n ws[i])
  (fun Lx => ∃ L' kk, (Lx = (lp, rec .ready none) :: (DD, .deferred (some [])) :: (cx, xCell x) :: (cn, iCell n) :: (ca, iCell a) :: (ch, hCell v) :: (b6, iCell (kk : Nat)) :: (b5, .cells #[fv] 256 (0, 0)) :: L' ∨
   Lx = (lp, rec .done (some .ret)) :: (DD, .deferred (some [])) :: (cx, xCell x) :: (cn, iCell n) :: (ca, iCell a) :: (ch, hCell v) :: (b6, iCell (kk : Nat)) :: (b5, .cells #[fv] 256 (0, 0)) :: L') ∧ E L')
  D _ ii hv ha ⟨L, a, rfl, hJ, Nat.le_refl _, Nat.lt_succ_self _, fun i h1 h2 => by omega⟩ ?_ w0).mono ?_ (fun _ _ h => h.elim)
 ·clear hJ
  rintro k _ ⟨L', kk, rfl, hJ, ka, kb, hno⟩
  obtain ⟨hD, hi1, hi2, hi3, hi4, hy, hn, hw, hE⟩ := hk k L' hJ
  refine ⟨ii, ii, ii, ii, ii, ?_, ?_, fun h1 h2 h3 => ⟨_, kk, .inl rfl, hw h1 h2 h3⟩, fun h1 => ⟨_, kk, .inl rfl, hE h1⟩⟩
  ·intro hlt hak hwh hst vo hvo
   have q3 := hvo.sng
   refine VP.yield1 hrec (by decide) (fun w0 => ?_)
   repeat' (first|refine Gi0 fun _=>?_|refine Gi1 ?_|refine Gi2 (fun _=>?_) fun _=>?_|refine Gi3 ?_|refine Gi4 fun _=>?_|fail)
   refine beginR ?_
   repeat' (first|refine Gi0 fun _=>?_|refine Gi1 ?_|refine Gi2 (fun _=>?_) fun _=>?_|refine Gi3 ?_|refine Gi4 fun _=>?_|fail)
   rename_i b7
   refine CW.count (k - (kk + 1)) (fun i ρ ds Lz => ds = [] ∧ (∃ X, Lz = X ++ ((b7, .cells (didC ws[k].r vo).toArray 111 (0, 0)) :: (lp, rec .busy none) :: (DD, .deferred (some [])) :: (cx, xCell x) :: (cn, iCell n) :: (ca, iCell a) :: (ch, hCell v) :: (b6, iCell ((kk + 1 + i : Nat) : Int)) :: (b5, .cells #[fv] 256 (0, 0)) :: L')) ∧ Ev ρ 1 (.pointer (some ⟨ba, 0, none⟩)) ∧ Ev ρ 2 (.pointer (some ⟨bh, 0, none⟩)) ∧ Ev ρ 3 (.pointer (some ⟨bn, 0, none⟩)) ∧ Ev ρ 5 (.pointer (some ⟨b5, 0, none⟩)) ∧ Ev ρ 6 (.pointer (some ⟨b6, 0, none⟩)) ∧ Ev ρ 7 (.pointer (some ⟨b7, 0, none⟩)))
    ⟨rfl, ⟨[], by rw [show ((kk + 1 + 0 : Nat) : Int) = (kk : Int) + 1 by omega]; rfl⟩, ii, ii, ii, ii, ii, ii⟩ ?_
   rintro i ρ ds Lz hi ⟨rfl, ⟨X, rfl⟩, e1, e2, e3, e5, e6, e7⟩
   obtain ⟨bk, kk2, capk, lk, ek, frk, rfl, hbin, hbc, hbn⟩ := hv.open (by omega)
   obtain ⟨cc, hcut, vb, vd, vq, bp, rfl, hvb, hvd, hvq, htr, hrr, hbm⟩ := hbn (kk + 1 + i) (by omega)
   have hbin' : InC L' bk (.cells lk.toArray ek frk) := ⟨hD.out _ hbin.out⟩
   have p1 := hvb.sng
   have p2 := hvd.sng
   have p3 := hvq.sng
   have hstep : kk + 1 + i < k → ¬ isStep n (ws[kk + 1 + i]'(by omega)) := fun h => hno _ (by omega) h (by omega)
   have hlast : kk + 1 + i = k → isStep n (ws[kk + 1 + i]'(by omega)) := fun h => by subst h; exact hst
   obtain ⟨wq, hwq⟩ : ∃ wq, wq = ws[kk + 1 + i]'(by omega) := ⟨_, rfl⟩
   rw [← hwq] at hcut hvb hvd hvq htr hrr hbm hstep hlast
   clear hwq
   have g3 := cutNth 3 hcut rfl
   have hlti : ((kk + 1 + i : Nat) : Int) < ws.length := by omega
   by_cases hth : wq.t.thread = n
   ·repeat' (first|refine Gi0 fun _=>?_|refine Gi1 ?_|refine Gi2 (fun _=>?_) fun _=>?_|refine Gi3 ?_|refine Gi4 fun _=>?_|fail)
    refine RW.call (jFine wq.t wq.r vb vd vq _ bp wq.b 6 _ wq ⟨rfl, rfl⟩) ?_
    rintro _ _ ⟨rfl, rfl⟩
    refine pinAll ?_
    by_cases hf : fine 6 wq
    ·have hik : kk + 1 + i = k := by
      by_cases h : kk + 1 + i < k
      ·exact absurd ⟨hth, hf⟩ (hstep h)
      ·omega
     have hke : ((kk + 1 + i : Nat) : Int) = (k : Int) := by omega
     rw [decide_eq_true hf, hke]
     repeat' (first|refine Gi0 fun _=>?_|refine Gi1 ?_|refine Gi2 (fun _=>?_) fun _=>?_|refine Gi3 ?_|refine Gi4 fun _=>?_|fail)
     refine OW.drop (List.sublist_append_right ..) ?_
     refine OW.callV1 (hy hlt hak hwh hst [(b7, .cells (didC ws[k].r vo).toArray 111 (0, 0)), (lp, rec .busy none), (DD, .deferred (some [])), (cx, xCell x), (cn, iCell n), (ca, iCell a), (ch, hCell _), (b6, iCell (k : Int)), (b5, .cells #[fv] 256 (0, 0))] vo hvo) ?_
     rintro _ _ ⟨Y, L3, rfl, ⟨rfl, hJ'⟩ | ⟨rfl, hE'⟩⟩
     ·refine OW.drop (L' := [(lp, rec .busy none), (DD, .deferred (some [])), (cx, xCell x), (cn, iCell n), (ca, iCell a), (ch, hCell (.slice (some ⟨bk, kk2, none⟩) ws.length capk)), (b6, iCell (k : Int)), (b5, .cells #[fv] 256 (0, 0))] ++ L3) (List.Sublist.trans (List.sublist_cons_self (b7, .cells (didC ws[k].r vo).toArray 111 (0, 0)) _) (List.sublist_append_right Y _)) ?_
      repeat' (first|refine Gi0 fun _=>?_|refine Gi1 ?_|refine Gi2 (fun _=>?_) fun _=>?_|refine Gi3 ?_|refine Gi4 fun _=>?_|fail)
      refine roundK.nrm ?_
      exact .inl ⟨rfl, L3, k, rfl, hJ', by omega, by omega, fun i h1 h2 => by omega⟩
     ·refine OW.drop (L' := [(lp, rec .busy none), (DD, .deferred (some [])), (cx, xCell x), (cn, iCell n), (ca, iCell a), (ch, hCell (.slice (some ⟨bk, kk2, none⟩) ws.length capk)), (b6, iCell (k : Int)), (b5, .cells #[fv] 256 (0, 0))] ++ L3) (List.Sublist.trans (List.sublist_cons_self (b7, .cells (didC ws[k].r vo).toArray 111 (0, 0)) _) (List.sublist_append_right Y _)) ?_
      repeat' (first|refine Gi0 fun _=>?_|refine Gi1 ?_|refine Gi2 (fun _=>?_) fun _=>?_|refine Gi3 ?_|refine Gi4 fun _=>?_|fail)
      refine roundK.ret ?_
      exact .inr ⟨rfl, L3, k, .inr rfl, hE'⟩
    ·rw [decide_eq_false hf]
     have hik : kk + 1 + i ≠ k := fun h => hf (hlast h).2
     repeat' (first|refine Gi0 fun _=>?_|refine Gi1 ?_|refine Gi2 (fun _=>?_) fun _=>?_|refine Gi3 ?_|refine Gi4 fun _=>?_|fail)
     exact ⟨by omega, rfl, ⟨X, by rw [show ((kk + 1 + (i + 1) : Nat) : Int) = ((kk + 1 + i : Nat) : Int) + 1 by omega]⟩, ii, ii, ii, ii, ii, ii⟩
   ·have hik : kk + 1 + i ≠ k := fun h => hth (hlast h).1
    repeat' (first|refine Gi0 fun _=>?_|refine Gi1 ?_|refine Gi2 (fun _=>?_) fun _=>?_|refine Gi3 ?_|refine Gi4 fun _=>?_|fail)
    exact ⟨by omega, rfl, ⟨X, by rw [show ((kk + 1 + (i + 1) : Nat) : Int) = ((kk + 1 + i : Nat) : Int) + 1 by omega]⟩, ii, ii, ii, ii, ii, ii⟩
  ·intro hlt hak hwh hst
   refine ⟨L', kk, rfl, hn hlt hak hwh hst, ka, by omega, fun i h1 h2 h => ?_⟩
   by_cases hi : i = k
   ·subst hi; exact hst
   ·exact hno i h1 (by omega) h
 ·rintro u _ ⟨L', kk, rfl | rfl, hE⟩
  ·refine rangeK.nrm ?_
   repeat' (first|refine Gi0 fun _=>?_|refine Gi1 ?_|refine Gi2 (fun _=>?_) fun _=>?_|refine Gi3 ?_|refine Gi4 fun _=>?_|fail)
   exact bodyM.nrmM L' (Res.zero Tryz.results143) hE
  ·refine rangeK.jump (c := .ret) ?_
   repeat' (first|refine Gi0 fun _=>?_|refine Gi1 ?_|refine Gi2 (fun _=>?_) fun _=>?_|refine Gi3 ?_|refine Gi4 fun _=>?_|fail)
   exact bodyM.retM L' (Res.zero Tryz.results143) hE
end Go.Proofs.YtmnhooepaemlcaaGreat
