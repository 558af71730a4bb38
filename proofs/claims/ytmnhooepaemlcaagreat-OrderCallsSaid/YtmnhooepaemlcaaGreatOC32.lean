/- OrderCalls: true for every input; arguments as before. Part 32. Conditions: none. -/
import Derived.Test.YtmnhooepaemlcaaGreatOC2
import Derived.Test.YtmnhooepaemlcaaGreatOC3
import Derived.Test.YtmnhooepaemlcaaGreatOC5
import Derived.Test.YtmnhooepaemlcaaGreatOC31
set_option linter.all false
namespace Go.Proofs.YtmnhooepaemlcaaGreat
open Go Go.Pw Go.Pw.Sc Go.Pw.Md
set_option maxRecDepth 100000
set_option maxHeartbeats 4000000
set_option synthInstance.maxHeartbeats 400000
set_option synthInstance.maxSize 2000
attribute [local irreducible] CW OW RW thenK blockK
attribute [local irreducible] scopeK loopK TRW ATW
theorem rNone (o : OutM) (vb : Value) (L : Chunk) (hb : BS L vb o.bytes) : Fn1 Tryz.prog 118 [outV o vb] L (fun u L' => u = .bool (decide (noneO o)) ∧ L = L') := by
 obtain ⟨a, c, rfl⟩ := hb.slice
 intro w0; refine Spec.enter1 Tryz.func118 rfl Tryz.ntmps118 (by decide) ?_
 have no : ¬ noneO o → decide (noneO o) = false := fun h => decide_eq_false h
 by_cases h1 : o.ad = 0
 ·by_cases h2 : o.n = 0
  ·by_cases h3 : o.bytes.length = 0
   ·have hy : noneO o := ⟨h1, h2, List.eq_nil_of_length_eq_zero h3⟩
    rw [decide_eq_true hy]
    repeat' (first|refine Ga0 fun _=>?_|refine Ga1 ?_|refine Ga2 (fun _=>?_) fun _=>?_|refine Ga3 ?_|refine Ga4 fun _=>?_|fail)
    exact bodyK.retD L (Res.one Tryz.results118) ⟨rfl, rfl⟩
   ·rw [no fun h => h3 (by rw [h.2.2]; rfl)]
    repeat' (first|refine Ga0 fun _=>?_|refine Ga1 ?_|refine Ga2 (fun _=>?_) fun _=>?_|refine Ga3 ?_|refine Ga4 fun _=>?_|fail)
    exact bodyK.retD L (Res.one Tryz.results118) ⟨rfl, rfl⟩
  ·rw [no fun h => h2 h.2.1]
   repeat' (first|refine Ga0 fun _=>?_|refine Ga1 ?_|refine Ga2 (fun _=>?_) fun _=>?_|refine Ga3 ?_|refine Ga4 fun _=>?_|fail)
   exact bodyK.retD L (Res.one Tryz.results118) ⟨rfl, rfl⟩
 ·rw [no fun h => h1 h.1]
  repeat' (first|refine Ga0 fun _=>?_|refine Ga1 ?_|refine Ga2 (fun _=>?_) fun _=>?_|refine Ga3 ?_|refine Ga4 fun _=>?_|fail)
  exact bodyK.retD L (Res.one Tryz.results118) ⟨rfl, rfl⟩
theorem rHanded (m : Mod) (hwf : WF m) (v : Value) (nd : NeedM) (size mult less : Int) (o : OutM) (vb : Value) (bs : List Int) (vB : Value) (hor : OutR o) (hc : 1 ≤ nd.charge ∧ nd.charge ≤ 262144) (hbl : (bs.length : Int) ≤ nd.charge) (hs : inR .i64 size) (hm : 1 ≤ mult ∧ mult ≤ 256) (hle : 0 ≤ less ∧ less ≤ 1073741824)
  (D L : Chunk) [hD : MemC D L] (hl : RL D v m.L) (hb : BS L vb o.bytes) (hB : Rd D 1 vB bs.length (iv bs)) :
  Fn1 Tryz.prog 119 [mV m v, ndV nd, .int .i64 size, .int .u64 mult, .int .i64 less, outV o vb, vB] L (DoR D L (handed m nd size mult less o bs)) := by
 have hm' := hm
 have hc' := hc
 obtain ⟨m1, m2⟩ := hm
 obtain ⟨g1, g2⟩ := hc
 obtain ⟨l1, l2⟩ := hle
 obtain ⟨s1, s2⟩ := hs
 have hq1 := hwf.quota0
 have hq2 := hwf.quota1
 have hch := hwf.charge
 have hch0 : 0 ≤ m.charge := (sum_take hwf.ok m.L.length).1 |> fun h => by rw [List.take_length] at h; exact h
 have hlen : m.L.length ≤ 1073741824 := wf_len2 hwf
 obtain ⟨av, cv, rfl⟩ := hl.slice
 obtain ⟨ab, cb, rfl⟩ := hb.slice
 obtain ⟨aB, kB, rfl, _⟩ := hB.isSlice
 have hsame := fun b => DoR.same (L := L) (m := m) (b := b) hl
 obtain ⟨small, cls, pages, charge⟩ := nd
 simp only at g1 g2 hbl hc'
 show Fn1 _ _ [mV m (.slice av m.L.length cv), .agg #[.bool small, .int .i64 cls, .int .i64 pages, .int .i64 charge], .int .i64 size, .int .u64 mult, .int .i64 less, outV o (.slice ab o.bytes.length cb), .slice aB bs.length kB] L _
 intro w0; refine Spec.enter7 Tryz.func119 rfl Tryz.ntmps119 (by decide) ?_
 have z2:DrP 2 [0,2,4,5,7,8,1,3,6,9]:=⟨⟨⟩⟩; have z3:DrS 3 14 [0,1,2,3,4,5,6,7,8]:=⟨⟨⟩⟩; have z5:DrS 5 14 [0,1,2,3,4,5,6,7,8,9,10,11,12,13,14,15,16,17,18,19,20,21,22,23,24,25]:=⟨⟨⟩⟩; have z8:DrS 8 14 [0,1,2,3,4,5,6,8,10,11,12,13,14,7,9,15,16,17,18,19,20]:=⟨⟨⟩⟩
 repeat' (first|refine Gi0 fun _=>?_|refine Gi1 ?_|refine Gi2 (fun _=>?_) fun _=>?_|refine Gi3 ?_|refine Gi4 fun _=>?_|fail)
 rename_i b7 b8 b12 b14
 refine RW.call (rCharge m hwf _ _ (RL.to' hl)) ?_
 rintro _ _ ⟨rfl, rfl⟩
 refine pinAll ?_
 have e0 : handed m ⟨small, cls, pages, charge⟩ size mult less o bs = if m.quota < m.charge - less + charge then (m, decide (bareO o [301])) else if o.errno ≠ 0 then (m, decide (bareO o [171, if small then 261 else 270])) else if o.n = 0 ∧ o.bytes = [] ∧ fitsP m.slot m.L ⟨small, cls, pages, charge⟩ mult o.ad then ({ m with L := ins (piece o.ad size charge bs) m.L }, true) else (m, false) := rfl
 generalize m.charge = ch at *
 by_cases c1 : m.quota < ch - less + charge
 ·rw [if_pos c1] at e0
  rw [e0]
  clear e0
  by_cases d1 : o.errno = 301
  ·repeat' (first|refine Gi0 fun _=>?_|refine Gi1 ?_|refine Gi2 (fun _=>?_) fun _=>?_|refine Gi3 ?_|refine Gi4 fun _=>?_|fail)
   refine RW.call (rNone o _ _ hb.to) ?_
   rintro _ _ ⟨rfl, rfl⟩
   refine pinOld ?_
   have e1 : decide (bareO o [301]) = decide (noneO o) := by congr 1; simp [bareO, d1]
   rw [e1]
   generalize decide (noneO o) = bb
   repeat' (first|refine Gi0 fun _=>?_|refine Gi1 ?_|refine Gi2 (fun _=>?_) fun _=>?_|refine Gi3 ?_|refine Gi4 fun _=>?_|fail)
   exact bodyK.retD L (Res.of2 Tryz.results119) (hsame bb)
  ·rw [decide_eq_false (show ¬ bareO o [301] from fun h => d1 (by simpa using h.2))]
   repeat' (first|refine Gi0 fun _=>?_|refine Gi1 ?_|refine Gi2 (fun _=>?_) fun _=>?_|refine Gi3 ?_|refine Gi4 fun _=>?_|fail)
   exact bodyK.retD L (Res.of2 Tryz.results119) (hsame false)
 ·rw [if_neg c1] at e0
  by_cases c2 : o.errno = 0
  ·rw [if_neg fun h => h c2] at e0
   have bad : ¬ (o.n = 0 ∧ o.bytes = [] ∧ fitsP m.slot m.L ⟨small, cls, pages, charge⟩ mult o.ad) → handed m ⟨small, cls, pages, charge⟩ size mult less o bs = (m, false) := fun h => by rw [e0, if_neg h]
   by_cases c3 : o.n = 0
   ·by_cases c4 : o.bytes.length = 0
    ·repeat' (first|refine Gi0 fun _=>?_|refine Gi1 ?_|refine Gi2 (fun _=>?_) fun _=>?_|refine Gi3 ?_|refine Gi4 fun _=>?_|fail)
     refine OW.call (rFits m _ ⟨small, cls, pages, charge⟩ mult o.ad hm' hor.ad hc' _ (RL.to' hl) hwf.ok) ?_
     rintro _ _ ⟨rfl, rfl⟩
     by_cases c5 : fitsP m.slot m.L ⟨small, cls, pages, charge⟩ mult o.ad
     ·rw [if_pos ⟨c3, List.eq_nil_of_length_eq_zero c4, c5⟩] at e0
      rw [decide_eq_true c5, e0]
      clear e0 bad c5
      obtain ⟨k, hk⟩ : ∃ k : Nat, charge - (bs.length : Int) = (k : Int) := ⟨_, (Int.toNat_of_nonneg (by omega)).symm⟩
      repeat' (first|refine Gi0 fun _=>?_|refine Gi1 ?_|refine Gi2 (fun _=>?_) fun _=>?_|refine Gi3 ?_|refine Gi4 fun _=>?_|fail)
      refine RW.appendE (RowE.empty ..) (At.nil _) hB.to (fun z hz => by obtain ⟨y, _, rfl⟩ := List.mem_map.1 hz; infer_instance) (by omega) (fun v1 N1 hr1 => pinOld ?_)
      have sv1 := hr1.sng
      rw [hk]
      repeat' (first|refine Gi0 fun _=>?_|refine Gi1 ?_|refine Gi2 (fun _=>?_) fun _=>?_|refine Gi3 ?_|refine Gi4 fun _=>?_|fail)
      refine RW.call (rBytes (k : Int) (-1) (by omega) _) ?_
      rintro v2 _ ⟨N2, rfl, hr2⟩
      have sv2 := hr2.sng
      rw [Int.toNat_natCast] at hr2
      refine pinOld ?_
      repeat' (first|refine Gi0 fun _=>?_|refine Gi1 ?_|refine Gi2 (fun _=>?_) fun _=>?_|refine Gi3 ?_|refine Gi4 fun _=>?_|fail)
      refine RW.appendE hr1 ii hr2.to (fun z hz => by obtain ⟨y, _, rfl⟩ := List.mem_map.1 hz; infer_instance) (by omega) (fun v3 N3 hr3 => pinOld ?_)
      have sv3 := hr3.sng
      rw [List.nil_append] at hr3
      have hr4 : Rd N3 1 v3 (bs ++ List.replicate k (-1)).length (iv (bs ++ List.replicate k (-1))) := by
       have := hr3.rd
       rw [List.length_append, List.length_replicate]
       simpa [iv] using this
      have hpc : piece o.ad size charge bs = ⟨o.ad, max 1 size, charge, bs ++ List.replicate k (-1)⟩ := by unfold piece; rw [hk, Int.toNat_natCast]
      rw [hpc]
      repeat' (first|refine Gi0 fun _=>?_|refine Gi1 ?_|refine Gi2 (fun _=>?_) fun _=>?_|refine Gi3 ?_|refine Gi4 fun _=>?_|fail)
      refine RW.call (rWith (hD := ⟨fun q hq => by
       have := hD.out
       simp only [List.mem_append, List.mem_cons] at hq ⊢
       rcases hq with h | h
       ·simp [h]
       ·simp [this _ h]⟩) m _ ⟨o.ad, max 1 size, charge, bs ++ List.replicate k (-1)⟩ v3 hlen (N3 ++ D) _ (RL.to' hl) hr4.to) ?_
      rintro _ _ ⟨v4, rfl, N4, rfl, hr5⟩
      have sv4 := hr5.sng
      refine pinOld ?_
      repeat' (first|refine Gi0 fun _=>?_|refine Gi1 ?_|refine Gi2 (fun _=>?_) fun _=>?_|refine Gi3 ?_|refine Gi4 fun _=>?_|fail)
      refine bodyK.ret (Res.of2 Tryz.results119) ⟨{ m with L := ins ⟨o.ad, max 1 size, charge, bs ++ List.replicate k (-1)⟩ m.L }, v4, _, rfl, Pre.out, sv4, fun _ => ⟨rfl, ?_⟩⟩
      refine RL.to' (hm := ⟨fun q hq => ?_⟩) hr5
      simp only [List.mem_append, List.mem_cons] at hq ⊢
      rcases hq with h | h | h <;> simp [h]
     ·rw [decide_eq_false c5, bad fun h => c5 h.2.2]
      clear e0 bad
      repeat' (first|refine Gi0 fun _=>?_|refine Gi1 ?_|refine Gi2 (fun _=>?_) fun _=>?_|refine Gi3 ?_|refine Gi4 fun _=>?_|fail)
      exact bodyK.retD L (Res.of2 Tryz.results119) (hsame false)
    ·rw [bad fun h => c4 (by rw [h.2.1]; rfl)]
     clear e0 bad
     repeat' (first|refine Gi0 fun _=>?_|refine Gi1 ?_|refine Gi2 (fun _=>?_) fun _=>?_|refine Gi3 ?_|refine Gi4 fun _=>?_|fail)
     exact bodyK.retD L (Res.of2 Tryz.results119) (hsame false)
   ·rw [bad fun h => c3 h.1]
    clear e0 bad
    repeat' (first|refine Gi0 fun _=>?_|refine Gi1 ?_|refine Gi2 (fun _=>?_) fun _=>?_|refine Gi3 ?_|refine Gi4 fun _=>?_|fail)
    exact bodyK.retD L (Res.of2 Tryz.results119) (hsame false)
  ·rw [if_pos c2] at e0
   rw [e0]
   clear e0
   repeat' (first|refine Gi0 fun _=>?_|refine Gi1 ?_|refine Gi2 (fun _=>?_) fun _=>?_|refine Gi3 ?_|refine Gi4 fun _=>?_|fail)
   refine RW.call (rNone o _ _ hb.to) ?_
   rintro _ _ ⟨rfl, rfl⟩
   refine pinOld ?_
   have hno : ¬ noneO o → decide (bareO o [171, if small then 261 else 270]) = false := fun h => decide_eq_false fun hh => h hh.1
   have hye : noneO o → decide (bareO o [171, if small then 261 else 270]) = decide (o.errno = 171 ∨ o.errno = if small then 261 else 270) := fun h => by congr 1; simp [bareO, h]
   by_cases d1 : noneO o
   ·rw [decide_eq_true d1, hye d1]
    clear hno hye
    by_cases d2 : o.errno = 171
    ·rw [decide_eq_true (Or.inl d2)]
     repeat' (first|refine Gi0 fun _=>?_|refine Gi1 ?_|refine Gi2 (fun _=>?_) fun _=>?_|refine Gi3 ?_|refine Gi4 fun _=>?_|fail)
     all_goals exact bodyK.retD L (Res.of2 Tryz.results119) (hsame true)
    ·cases small with
     | true =>
      by_cases d3 : o.errno = 261
      ·rw [decide_eq_true (Or.inr (by simpa using d3))]
       repeat' (first|refine Gi0 fun _=>?_|refine Gi1 ?_|refine Gi2 (fun _=>?_) fun _=>?_|refine Gi3 ?_|refine Gi4 fun _=>?_|fail)
       all_goals exact bodyK.retD L (Res.of2 Tryz.results119) (hsame true)
      ·rw [decide_eq_false (by simp; omega)]
       repeat' (first|refine Gi0 fun _=>?_|refine Gi1 ?_|refine Gi2 (fun _=>?_) fun _=>?_|refine Gi3 ?_|refine Gi4 fun _=>?_|fail)
       all_goals exact bodyK.retD L (Res.of2 Tryz.results119) (hsame false)
     | false =>
      by_cases d3 : o.errno = 270
      ·rw [decide_eq_true (Or.inr (by simpa using d3))]
       repeat' (first|refine Gi0 fun _=>?_|refine Gi1 ?_|refine Gi2 (fun _=>?_) fun _=>?_|refine Gi3 ?_|refine Gi4 fun _=>?_|fail)
       all_goals exact bodyK.retD L (Res.of2 Tryz.results119) (hsame true)
      ·rw [decide_eq_false (by simp; omega)]
       repeat' (first|refine Gi0 fun _=>?_|refine Gi1 ?_|refine Gi2 (fun _=>?_) fun _=>?_|refine Gi3 ?_|refine Gi4 fun _=>?_|fail)
       all_goals exact bodyK.retD L (Res.of2 Tryz.results119) (hsame false)
   ·rw [decide_eq_false d1, hno d1]
    clear hno hye
    repeat' (first|refine Gi0 fun _=>?_|refine Gi1 ?_|refine Gi2 (fun _=>?_) fun _=>?_|refine Gi3 ?_|refine Gi4 fun _=>?_|fail)
    all_goals exact bodyK.retD L (Res.of2 Tryz.results119) (hsame false)
end Go.Proofs.YtmnhooepaemlcaaGreat
