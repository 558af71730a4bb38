/-
  For every input the law JudgeBounds returns true, and each argument reads behind the call as it read before. This text holds lemmas for it (part 13).
  Conditions: none.
-/
import Derived.Test.YtmnhooepaemlcaaGreatJB2
import Derived.Test.YtmnhooepaemlcaaGreatJB12
set_option linter.all false
namespace Go.Proofs.YtmnhooepaemlcaaGreat
open Go Go.Pw Go.Pw.Sc Go.Pw.Md Go.Pw.Jd
set_option maxRecDepth 100000
set_option maxHeartbeats 4000000
set_option synthInstance.maxHeartbeats 400000
set_option synthInstance.maxSize 2000
attribute [local irreducible] CW OW RW thenK blockK
attribute [local irreducible] scopeK loopK TRW ATW


def Timed (ts : List Turn) (rs : List Rp) (x : Hd) (u : Value) : Prop :=
  if ts.length ≠ rs.length then u = .tuple #[.bool false, .int .i64 2]
  else if 4096 < ts.length then u = .tuple #[.bool false, .int .i64 3]
  else if (quotaOf (rows (ts.zip rs)) x).2 = false then u = .tuple #[.bool false, .int .i64 311]
  else u = .tuple #[.bool (!((callsOf x (rows (ts.zip rs)) 0).any fun c => decide (lateC c))), .int .i64 0]
theorem timed_a {ts : List Turn} {rs : List Rp} {x : Hd} (h : ts.length ≠ rs.length) : Timed ts rs x (.tuple #[.bool false, .int .i64 2]) := by unfold Timed; rw [if_pos h]
theorem timed_b {ts : List Turn} {rs : List Rp} {x : Hd} (h : ¬ ts.length ≠ rs.length) (h2 : 4096 < ts.length) : Timed ts rs x (.tuple #[.bool false, .int .i64 3]) := by unfold Timed; rw [if_neg h, if_pos h2]
theorem timed_c {ts : List Turn} {rs : List Rp} {x : Hd} {ws : List Row} (hws : rows (ts.zip rs) = ws) (h : ¬ ts.length ≠ rs.length) (h2 : ¬ 4096 < ts.length) (h3 : (quotaOf ws x).2 = false) : Timed ts rs x (.tuple #[.bool false, .int .i64 311]) := by unfold Timed; rw [if_neg h, if_neg h2, hws, if_pos h3]
theorem timed_d {ts : List Turn} {rs : List Rp} {x : Hd} {ws : List Row} {p : Bool} (hws : rows (ts.zip rs) = ws) (h : ¬ ts.length ≠ rs.length) (h2 : ¬ 4096 < ts.length) (h3 : (quotaOf ws x).2 = true) (hp : ((callsOf x ws 0).any fun c => decide (lateC c)) = p) : Timed ts rs x (.tuple #[.bool (!p), .int .i64 0]) := by
  unfold Timed; rw [if_neg h, if_neg h2, hws, if_neg (by rw [h3]; decide), hp]
theorem jTime (vl vr : Value) (ts : List Turn) (rs : List Rp) (x : Hd) (L : Chunk) (hl : LS 13 TnAt L vl ts) (hr : LS 11 RpAt L vr rs) (hx : inR .i64 x.1 ∧ inR .i64 x.2) :
    Fn1 Tryz.prog 11 [vl, vr, hdV x] L (fun u L' => Timed ts rs x u ∧ L = L') := by
  have sl := hl.sng
  have sr := hr.sng
  intro w0; refine Spec.enter3 Tryz.func11 rfl Tryz.ntmps11 (by decide) ?_
  repeat' (first|refine Ga0 fun _=>?_|refine Ga1 ?_|refine Ga2 (fun _=>?_) fun _=>?_|refine Ga3 ?_|refine Ga4 fun _=>?_|fail)
  rename_i b5
  refine OW.call (jRead vl vr ts rs _ (LS.to hl (fun c a h => TnAt.to c a h)) (LS.to hr (fun c a h => RpAt.to c a h))) ?_
  intro u L2 hu
  by_cases c1 : ts.length ≠ rs.length
  · rw [if_pos c1] at hu
    obtain ⟨rfl, rfl⟩ := hu
    repeat' (first|refine Ga0 fun _=>?_|refine Ga1 ?_|refine Ga2 (fun _=>?_) fun _=>?_|refine Ga3 ?_|refine Ga4 fun _=>?_|fail)
    exact bodyK.retD L (Res.of2 Tryz.results11) ⟨timed_a c1, rfl⟩
  rw [if_neg c1] at hu
  by_cases c2 : 4096 < ts.length
  · rw [if_pos c2] at hu
    obtain ⟨rfl, rfl⟩ := hu
    repeat' (first|refine Ga0 fun _=>?_|refine Ga1 ?_|refine Ga2 (fun _=>?_) fun _=>?_|refine Ga3 ?_|refine Ga4 fun _=>?_|fail)
    exact bodyK.retD L (Res.of2 Tryz.results11) ⟨timed_b c1 c2, rfl⟩
  rw [if_neg c2] at hu
  obtain ⟨N1, v, rfl, rfl, hw⟩ := hu
  have hwl : (rows (ts.zip rs)).length ≤ 4096 := by rw [rows_length, List.length_zip]; omega
  generalize hws : rows (ts.zip rs) = ws at hw hwl
  have sv := hw.sng
  repeat' (first|refine Ga0 fun _=>?_|refine Ga1 ?_|refine Ga2 (fun _=>?_) fun _=>?_|refine Ga3 ?_|refine Ga4 fun _=>?_|fail)
  refine OW.call (jQuota v ws x _ hw hx) ?_
  rintro _ _ ⟨rfl, rfl⟩
  cases hq : (quotaOf ws x).2 with
  | false =>
    repeat' (first|refine Ga0 fun _=>?_|refine Ga1 ?_|refine Ga2 (fun _=>?_) fun _=>?_|refine Ga3 ?_|refine Ga4 fun _=>?_|fail)
    exact bodyK.retD L (Res.of2 Tryz.results11) ⟨timed_c hws c1 c2 hq, rfl⟩
  | true =>
    repeat' (first|refine Ga0 fun _=>?_|refine Ga1 ?_|refine Ga2 (fun _=>?_) fun _=>?_|refine Ga3 ?_|refine Ga4 fun _=>?_|fail)
    refine OW.call (jCallsE v ws x _ _ hw hwl) ?_
    rintro u L3 ⟨es, hes, hsc, hbs, hel, hu⟩
    have hr3 : Rd L3 13 u es.length (flR clE es) := by
      rcases hu with ⟨rfl, rfl, rfl⟩ | ⟨b, cap, rest, rfl, rfl, hcap⟩
      · exact ⟨rfl, .inl ⟨⟨_, _, rfl⟩, rfl⟩⟩
      · exact flR_rd (pre := []) clE_len rfl (List.mem_cons_self ..) hcap
    have hsub : ∃ N3, L3 = N3 ++ (N1 ++ (b5, xCell x) :: L) := by
      rcases hu with ⟨rfl, rfl, rfl⟩ | ⟨b, cap, rest, rfl, rfl, hcap⟩
      · exact ⟨[], rfl⟩
      · exact ⟨[_], rfl⟩
    obtain ⟨N3, rfl⟩ := hsub
    have su : Sng u := by
      rcases hu with ⟨rfl, _⟩ | ⟨b, cap, rest, rfl, _⟩ <;> infer_instance
    have hpa : ((callsOf x ws 0).any fun c => decide (lateC c)) = es.any fun e => decide (lateC e.1) := by rw [← hes, List.any_map]; rfl
    clear hu
    repeat' (first|refine Ga0 fun _=>?_|refine Ga1 ?_|refine Ga2 (fun _=>?_) fun _=>?_|refine Ga3 ?_|refine Ga4 fun _=>?_|fail)
    refine OW.call (jFoundC u _ es (fun c => decide (lateC c)) inferInstance _ hr3 hsc (by omega) (fun c vx vb L' s1 s2 => FnP.vp (first := #[]) (cap := #[]) (jLate c vx vb L'))) ?_
    rintro _ _ ⟨⟨vs, rfl, c, vx, vb, rfl, q1, q2⟩, rfl⟩
    repeat' (first|refine Ga0 fun _=>?_|refine Ga1 ?_|refine Ga2 (fun _=>?_) fun _=>?_|refine Ga3 ?_|refine Ga4 fun _=>?_|fail)
    exact bodyK.retD L (Res.two Tryz.results11) ⟨timed_d hws c1 c2 hq hpa, rfl⟩
end Go.Proofs.YtmnhooepaemlcaaGreat

namespace Go.Proofs.YtmnhooepaemlcaaGreat
open Go Go.Pw Go.Pw.Sc Go.Pw.Md Go.Pw.Jd
set_option maxRecDepth 100000
set_option maxHeartbeats 4000000
set_option synthInstance.maxHeartbeats 400000
set_option synthInstance.maxSize 2000
attribute [local irreducible] CW OW RW thenK blockK
attribute [local irreducible] scopeK loopK TRW ATW


/-- A history, or nothing. -/
def hist (ts : List Turn) (rs : List Rp) : List Row := if ts.length ≠ rs.length ∨ 4096 < ts.length then [] else rows (ts.zip rs)
def histE (ts : List Turn) (rs : List Rp) : Int := if ts.length ≠ rs.length then 2 else if 4096 < ts.length then 3 else 0
theorem ls_nil {α : Type} {s : Nat} {R : Chunk → List Value → α → Prop} {L : Chunk} : LS s R L (.slice none 0 0) [] := ⟨⟨[], ⟨by simp, .inl ⟨⟨_, _, rfl⟩, rfl⟩⟩, rfl⟩, by simp⟩
theorem jReadH (vl vr : Value) (ts : List Turn) (rs : List Rp) (L : Chunk) (hl : LS 13 TnAt L vl ts) (hr : LS 11 RpAt L vr rs) : Fn1 Tryz.prog 43 [vl, vr] L
    (fun u L' => ∃ N v, u = .tuple #[v, .int .i64 (histE ts rs)] ∧ L' = N ++ L ∧ LS 26 RwAt (N ++ L) v (hist ts rs) ∧ (hist ts rs).length ≤ 4096) := by
  refine (jRead vl vr ts rs L hl hr).mono ?_ (fun _ _ h => h.elim)
  intro u L' hu
  unfold hist histE
  by_cases c1 : ts.length ≠ rs.length
  · rw [if_pos c1] at hu
    obtain ⟨rfl, rfl⟩ := hu
    rw [if_pos c1, if_pos (.inl c1)]
    exact ⟨[], _, rfl, rfl, ls_nil, by decide⟩
  rw [if_neg c1] at hu ⊢
  by_cases c2 : 4096 < ts.length
  · rw [if_pos c2] at hu
    obtain ⟨rfl, rfl⟩ := hu
    rw [if_pos c2, if_pos (.inr c2)]
    exact ⟨[], _, rfl, rfl, ls_nil, by decide⟩
  rw [if_neg c2] at hu ⊢
  obtain ⟨N, v, rfl, rfl, hw⟩ := hu
  rw [if_neg fun h => h.elim c1 c2]
  exact ⟨N, v, rfl, rfl, hw, by rw [rows_length, List.length_zip]; omega⟩
theorem jHandles (vl vr : Value) (ts : List Turn) (rs : List Rp) (L : Chunk) (hl : LS 13 TnAt L vl ts) (hr : LS 11 RpAt L vr rs) : Fn1 Tryz.prog 13 [vl, vr] L
    (fun u L' => ∃ N v b, u = .func (.func 53) #[] #[.pointer (some ⟨b, 0, none⟩)] ∧ L' = (b, hCell v) :: (N ++ L) ∧ LS 26 RwAt (N ++ L) v (hist ts rs)) := by
  have sl := hl.sng
  have sr := hr.sng
  intro w0; refine Spec.enter2 Tryz.func13 rfl Tryz.ntmps13 (by decide) ?_
  repeat' (first|refine Ga0 fun _=>?_|refine Ga1 ?_|refine Ga2 (fun _=>?_) fun _=>?_|refine Ga3 ?_|refine Ga4 fun _=>?_|fail)
  refine OW.call (jReadH vl vr ts rs _ hl hr) ?_
  rintro _ _ ⟨N1, v, rfl, rfl, hw, hwl⟩
  have sv := hw.sng
  repeat' (first|refine Ga0 fun _=>?_|refine Ga1 ?_|refine Ga2 (fun _=>?_) fun _=>?_|refine Ga3 ?_|refine Ga4 fun _=>?_|fail)
  rename_i b5
  exact bodyK.ret (Res.one Tryz.results13) ⟨N1, v, b5, rfl, rfl, hw⟩
theorem jAll (v : Value) (L : Chunk) (sv : Sng v) :
    Fn1 Tryz.prog 54 [v] L (fun u L' => ∃ bh, u = .func (.func 106) #[] #[.pointer (some ⟨bh, 0, none⟩)] ∧ L' = (bh, hCell v) :: L) := by
  intro w0; refine Spec.enter1 Tryz.func54 rfl Tryz.ntmps54 (by decide) ?_
  repeat' (first|refine Ga0 fun _=>?_|refine Ga1 ?_|refine Ga2 (fun _=>?_) fun _=>?_|refine Ga3 ?_|refine Ga4 fun _=>?_|fail)
  exact bodyK.ret (Res.one Tryz.results54) ⟨_, rfl, rfl⟩
theorem jAll1 (fv v : Value) (bh : Nat) (ws : List Row) (J : Nat → Chunk → Prop) (E : Chunk → Prop) (D L : Chunk) (sf : Sng fv) (hv : LS 26 RwAt D v ws) (hJ : J 0 L)
    (hk : ∀ k L', J k L' → MemC D L' ∧ InC L' bh (hCell v) ∧
      (∀ h : k < ws.length, ∀ vb vd vo bp, Sng vb → Sng vd → Sng vo → VP Tryz.prog fv [.int .i64 (k : Int), .agg (Jd.wcells ws[k].t ws[k].r vb vd vo (ws[k].at_ : Int) bp).toArray] L' (fun u L'' => ∃ Y L3, L'' = Y ++ L3 ∧ ((u = .bool true ∧ J (k + 1) L3) ∨ (u = .bool false ∧ E L3))) noPanic) ∧ (k = ws.length → E L')) :
    Fn1 Tryz.prog 106 [fv, .pointer (some ⟨bh, 0, none⟩)] L (fun _ L' => E L') := by
  have hn := hv.len
  obtain ⟨av, cv, rfl⟩ := hv.slice
  obtain ⟨hD, hi1, _, _⟩ := hk _ L hJ
  intro w0; refine Spec.enter2 Tryz.func106 rfl Tryz.ntmps106 (by decide) ?_
  repeat' (first|refine Ga0 fun _=>?_|refine Ga1 ?_|refine Ga2 (fun _=>?_) fun _=>?_|refine Ga3 ?_|refine Ga4 fun _=>?_|fail)
  clear hD hi1
  refine CW.count ws.length (fun i ρ ds Lx => ds = [] ∧ (∃ X L', Lx = X ++ L' ∧ J i L') ∧ Ev ρ 0 fv ∧ Ev ρ 5 (.slice av ws.length cv) ∧ Ev ρ 6 (.int .i64 (ws.length : Int)) ∧ Ev ρ 7 (.int .i64 (i : Int)))
    ⟨rfl, ⟨[], L, rfl, hJ⟩, inferInstance, inferInstance, inferInstance, inferInstance⟩ ?_
  clear hJ
  rintro i ρ ds Lx hi ⟨rfl, ⟨X, L', rfl, hJ⟩, e0, e5, e6, e7⟩
  obtain ⟨hD, hi1, hy, hE⟩ := hk _ L' hJ
  by_cases hlt : i < ws.length
  · obtain ⟨bk, kk, capk, lk, ek, frk, hbe, hbin, hbc, hbn⟩ := hv.open (by omega)
    cases hbe
    obtain ⟨cc, hcut, vb, vd, vo, bp, rfl, hvb, hvd, hvo, htr, hrr, hbm⟩ := hbn i hlt
    have q1 := hvb.sng
    have q2 := hvd.sng
    have q3 := hvo.sng
    have hy := hy hlt vb vd vo bp q1 q2 q3
    have hlti : (i : Int) < ws.length := by omega
    have hbin' : InC L' bk (.cells lk.toArray ek frk) := ⟨hD.out _ hbin.out⟩
    clear hbn
    generalize ws[i] = w at *
    repeat' (first|refine Ga0 fun _=>?_|refine Ga1 ?_|refine Ga2 (fun _=>?_) fun _=>?_|refine Ga3 ?_|refine Ga4 fun _=>?_|fail)
    refine OW.drop (L' := L') (List.Sublist.cons _ (List.sublist_append_right ..)) ?_
    refine OW.callV1 hy ?_
    rintro _ _ ⟨Y, L'', rfl, ⟨rfl, hJ'⟩ | ⟨rfl, hE'⟩⟩
    · repeat' (first|refine Ga0 fun _=>?_|refine Ga1 ?_|refine Ga2 (fun _=>?_) fun _=>?_|refine Ga3 ?_|refine Ga4 fun _=>?_|fail)
      exact ⟨hlt, rfl, ⟨Y, L'', rfl, hJ'⟩, inferInstance, inferInstance, inferInstance, by rw [Int.natCast_add]; infer_instance⟩
    · repeat' (first|refine Ga0 fun _=>?_|refine Ga1 ?_|refine Ga2 (fun _=>?_) fun _=>?_|refine Ga3 ?_|refine Ga4 fun _=>?_|fail)
      exact bodyK.retD L'' (Res.zero Tryz.results106) hE'
  · obtain rfl : i = ws.length := by omega
    repeat' (first|refine Ga0 fun _=>?_|refine Ga1 ?_|refine Ga2 (fun _=>?_) fun _=>?_|refine Ga3 ?_|refine Ga4 fun _=>?_|fail)
    exact bodyK.nrmD L' (Res.zero Tryz.results106) (hE rfl)
theorem jHandles1 (fv v : Value) (bh : Nat) (ws : List Row) (L : Chunk) (sf : Sng fv) [h1 : InC L bh (hCell v)] (hv : LS 26 RwAt L v ws) (hno : ∀ w ∈ ws, ¬ fine 1 w) :
    Fn1 Tryz.prog 53 [fv, .pointer (some ⟨bh, 0, none⟩)] L (fun _ L' => L = L') := by
  have sv := hv.sng
  intro w0; refine Spec.enterM2 Tryz.func53 rfl Tryz.ntmps53 (by decide) ?_
  repeat' (first|refine Ge0 fun _=>?_|refine Ge1 ?_|refine Ge2 (fun _=>?_) fun _=>?_|refine Ge3 ?_|refine Ge4 fun _=>?_|fail)
  rename_i b2
  refine OW.call (jAll v _ sv) ?_
  rintro _ _ ⟨ca, rfl, rfl⟩
  repeat' (first|refine Ge0 fun _=>?_|refine Ge1 ?_|refine Ge2 (fun _=>?_) fun _=>?_|refine Ge3 ?_|refine Ge4 fun _=>?_|fail)
  refine CW.rangeFunc (fun lp DD rec hrec => ?_)
  refine (jAll1 (.func (.yield lp) #[] #[]) v ca ws
    (fun k Lx => Lx = (lp, rec .ready none) :: (DD, .deferred (some [])) :: (ca, hCell v) :: (b2, .cells #[fv] 134 (0, 0)) :: L)
    (fun Lx => Lx = (lp, rec .ready none) :: (DD, .deferred (some [])) :: (ca, hCell v) :: (b2, .cells #[fv] 134 (0, 0)) :: L)
    L _ inferInstance hv rfl ?_ w0).mono ?_ (fun _ _ h => h.elim)
  · rintro k _ rfl
    refine ⟨inferInstance, inferInstance, fun hlt vb vd vo bp q1 q2 q3 => ?_, fun _ => rfl⟩
    have hf := hno _ (List.getElem_mem hlt)
    generalize ws[k] = w at *
    refine VP.yield2 hrec (by decide) (by decide) (fun w0 => ?_)
    repeat' (first|refine Ge0 fun _=>?_|refine Ge1 ?_|refine Ge2 (fun _=>?_) fun _=>?_|refine Ge3 ?_|refine Ge4 fun _=>?_|fail)
    refine beginR ?_
    repeat' (first|refine Ge0 fun _=>?_|refine Ge1 ?_|refine Ge2 (fun _=>?_) fun _=>?_|refine Ge3 ?_|refine Ge4 fun _=>?_|fail)
    refine OW.call (jFine w.t w.r vb vd vo _ bp w.b 1 _ w ⟨rfl, rfl⟩) ?_
    rintro _ _ ⟨rfl, rfl⟩
    rw [decide_eq_false hf]
    repeat' (first|refine Ge0 fun _=>?_|refine Ge1 ?_|refine Ge2 (fun _=>?_) fun _=>?_|refine Ge3 ?_|refine Ge4 fun _=>?_|fail)
    refine roundK.nrm ?_
    exact ⟨[_], _, rfl, .inl ⟨rfl, rfl⟩⟩
  · rintro u _ rfl
    refine rangeK.nrm ?_
    repeat' (first|refine Ge0 fun _=>?_|refine Ge1 ?_|refine Ge2 (fun _=>?_) fun _=>?_|refine Ge3 ?_|refine Ge4 fun _=>?_|fail)
    exact bodyM.nrmM L (Res.zero Tryz.results53) rfl
end Go.Proofs.YtmnhooepaemlcaaGreat
