/- OrderCalls: true for every input; arguments as before. Part 22. Conditions: none. -/
import Derived.Test.YtmnhooepaemlcaaGreatOC2
import Derived.Test.YtmnhooepaemlcaaGreatOC21
set_option linter.all false
namespace Go.Proofs.YtmnhooepaemlcaaGreat
open Go Go.Pw Go.Pw.Sc Go.Pw.Md Go.Pw.Jd
set_option maxRecDepth 100000
set_option maxHeartbeats 4000000
set_option synthInstance.maxHeartbeats 400000
set_option synthInstance.maxSize 2000
attribute [local irreducible] CW OW RW thenK blockK
attribute [local irreducible] scopeK loopK TRW ATW
theorem jCallsE (v : Value) (ws : List Row) (x : Hd) (D L : Chunk) [hD : MemC D L] (hv : LS 26 RwAt D v ws) (hl : ws.length ≤ 4096) :
  Fn1 Tryz.prog 46 [v, hdV x] L (fun u L' => ∃ es : List CE, es.map Prod.fst = callsOf x ws 0 ∧ CEs es ∧ (∀ e ∈ es, BS D e.2.1 e.1.op.bytes ∧ BS D e.2.2 e.1.out.bytes ∧ ClR ws.length e.1) ∧ es.length ≤ ws.length ∧
   ((u = .slice none 0 0 ∧ es = [] ∧ L' = L) ∨ ∃ b cap rest, u = .slice (some ⟨b, 0, none⟩) es.length cap ∧ L' = (b, .cells ([] ++ (flR clE es ++ rest)).toArray 123 (0, 0)) :: L ∧ es.length ≤ cap)) := by
 refine (jCalls v ws x D L hv hl).mono ?_ (fun _ _ h => h.elim)
 rintro u _ ⟨N, rfl, xs, hrow, hlat, hcl⟩
 obtain ⟨es, rfl, hes, hbs⟩ := calls_es hlat
 have hle : (callsOf x ws 0).length = es.length := by rw [← hes, List.length_map]
 rw [hle] at hrow hcl
 refine ⟨es, hes, fun e he => ⟨(hbs e he).1.sng, (hbs e he).2.1.sng⟩, hbs, hcl, ?_⟩
 rcases hrow.2 with ⟨h1, h2, h3⟩ | ⟨b, cap, rest, h1, h2, h3, h4⟩
 ·exact .inl ⟨h1, List.eq_nil_of_length_eq_zero h2, by rw [h3]; rfl⟩
 ·exact .inr ⟨b, cap, rest, h1, by rw [h2]; rfl, h3⟩
theorem quota_ok {ws : List Row} {x : Hd} (h : (quotaOf ws x).2 = true) : 0 ≤ x.1 ∧ x.1 < 4 ∧ 0 ≤ (quotaOf ws x).1 ∧ (quotaOf ws x).1 ≤ 1073741824 := by
 unfold quotaOf at h ⊢
 split at h
 ·rename_i w hw
  have h1 := List.find?_some hw
  have h2 := of_decide_eq_true h
  have h3 := of_decide_eq_true h1
  exact ⟨h2.2.1, h2.2.2, h3.2.2.1, h3.2.2.2⟩
 ·cases h
def noWork (c : Cl) : Bool := decide (c.work < 0)
def Judged (ts : List Turn) (rs : List Rp) (x : Hd) (u : Value) : Prop :=
 if ts.length ≠ rs.length then u = .tuple #[.agg #[.int .i64 0, .int .i64 0], .int .i64 2]
 else if 4096 < ts.length then u = .tuple #[.agg #[.int .i64 0, .int .i64 0], .int .i64 3]
 else if (quotaOf (rows (ts.zip rs)) x).2 = false then u = .tuple #[.agg #[.int .i64 0, .int .i64 0], .int .i64 311]
 else ∃ cs : List Cl, cs.Perm ((callsOf x (rows (ts.zip rs)) 0).filter fun c => !noWork c) ∧ u = .tuple #[.agg #[.int .i64 (verdict ⟨x.1, (quotaOf (rows (ts.zip rs)) x).1, []⟩ cs).1, .int .i64 (verdict ⟨x.1, (quotaOf (rows (ts.zip rs)) x).1, []⟩ cs).2], .int .i64 0]
theorem judged_a {ts : List Turn} {rs : List Rp} {x : Hd} (h : ts.length ≠ rs.length) : Judged ts rs x (.tuple #[.agg #[.int .i64 0, .int .i64 0], .int .i64 2]) := by unfold Judged; rw [if_pos h]
theorem judged_b {ts : List Turn} {rs : List Rp} {x : Hd} (h : ¬ ts.length ≠ rs.length) (h2 : 4096 < ts.length) : Judged ts rs x (.tuple #[.agg #[.int .i64 0, .int .i64 0], .int .i64 3]) := by unfold Judged; rw [if_neg h, if_pos h2]
theorem judged_c {ts : List Turn} {rs : List Rp} {x : Hd} {ws : List Row} (hws : rows (ts.zip rs) = ws) (h : ¬ ts.length ≠ rs.length) (h2 : ¬ 4096 < ts.length) (h3 : (quotaOf ws x).2 = false) : Judged ts rs x (.tuple #[.agg #[.int .i64 0, .int .i64 0], .int .i64 311]) := by unfold Judged; rw [if_neg h, if_neg h2, hws, if_pos h3]
theorem judged_d {ts : List Turn} {rs : List Rp} {x : Hd} {ws : List Row} {q a b : Int} {cs ds : List Cl} (hws : rows (ts.zip rs) = ws) (h : ¬ ts.length ≠ rs.length) (h2 : ¬ 4096 < ts.length) (h3 : (quotaOf ws x).2 = true) (hq : (quotaOf ws x).1 = q)
  (hd : ds = (callsOf x ws 0).filter fun c => !noWork c) (hp : cs.Perm ds) (hv : verdict ⟨x.1, q, []⟩ cs = (a, b)) : Judged ts rs x (.tuple #[.agg #[.int .i64 a, .int .i64 b], .int .i64 0]) := by
 unfold Judged
 rw [if_neg h, if_neg h2, hws, if_neg (by rw [h3]; decide), hq]
 exact ⟨cs, hd ▸ hp, by rw [hv]⟩
theorem keptC_map (p : Cl → Bool) (es : List CE) : (keptC p es).map Prod.fst = (es.map Prod.fst).filter fun c => !p c := by
 unfold keptC
 rw [List.filter_map]
 rfl
theorem jJudge (M : Nat) (hsort : SortC M) (vl vr : Value) (ts : List Turn) (rs : List Rp) (x : Hd) (L : Chunk) (hl : LS 13 TnAt L vl ts) (hr : LS 11 RpAt L vr rs) (hx : inR .i64 x.1 ∧ inR .i64 x.2) (hM : ((callsOf x (rows (ts.zip rs)) 0).filter fun c => !noWork c).length ≤ M) :
  Fn1 Tryz.prog 10 [vl, vr, hdV x] L (fun u L' => Judged ts rs x u ∧ L = L') := by
 have sl := hl.sng
 have sr := hr.sng
 intro w0; refine Spec.enter3 Tryz.func10 rfl Tryz.ntmps10 (by decide) ?_
 repeat' (first|refine Ga0 fun _=>?_|refine Ga1 ?_|refine Ga2 (fun _=>?_) fun _=>?_|refine Ga3 ?_|refine Ga4 fun _=>?_|fail)
 rename_i b5 b6
 refine OW.call (jRead vl vr ts rs _ (LS.to hl (fun c a h => TnAt.to c a h)) (LS.to hr (fun c a h => RpAt.to c a h))) ?_
 intro u L2 hu
 by_cases c1 : ts.length ≠ rs.length
 ·rw [if_pos c1] at hu
  obtain ⟨rfl, rfl⟩ := hu
  repeat' (first|refine Ga0 fun _=>?_|refine Ga1 ?_|refine Ga2 (fun _=>?_) fun _=>?_|refine Ga3 ?_|refine Ga4 fun _=>?_|fail)
  exact bodyK.retD L (Res.of2 Tryz.results10) ⟨judged_a c1, rfl⟩
 rw [if_neg c1] at hu
 by_cases c2 : 4096 < ts.length
 ·rw [if_pos c2] at hu
  obtain ⟨rfl, rfl⟩ := hu
  repeat' (first|refine Ga0 fun _=>?_|refine Ga1 ?_|refine Ga2 (fun _=>?_) fun _=>?_|refine Ga3 ?_|refine Ga4 fun _=>?_|fail)
  exact bodyK.retD L (Res.of2 Tryz.results10) ⟨judged_b c1 c2, rfl⟩
 rw [if_neg c2] at hu
 obtain ⟨N1, v, rfl, rfl, hw⟩ := hu
 have hwl : (rows (ts.zip rs)).length ≤ 4096 := by rw [rows_length, List.length_zip]; omega
 generalize hws : rows (ts.zip rs) = ws at hw hwl hM
 have sv := hw.sng
 repeat' (first|refine Ga0 fun _=>?_|refine Ga1 ?_|refine Ga2 (fun _=>?_) fun _=>?_|refine Ga3 ?_|refine Ga4 fun _=>?_|fail)
 refine OW.call (jQuota v ws x _ hw hx) ?_
 rintro _ _ ⟨rfl, rfl⟩
 have hqk := quota_ok (ws := ws) (x := x)
 cases hq : (quotaOf ws x).2 with
 | false =>
  repeat' (first|refine Ga0 fun _=>?_|refine Ga1 ?_|refine Ga2 (fun _=>?_) fun _=>?_|refine Ga3 ?_|refine Ga4 fun _=>?_|fail)
  exact bodyK.retD L (Res.of2 Tryz.results10) ⟨judged_c hws c1 c2 hq, rfl⟩
 | true =>
  have hqk := hqk hq
  generalize hq1 : (quotaOf ws x).1 = q at hqk ⊢
  repeat' (first|refine Ga0 fun _=>?_|refine Ga1 ?_|refine Ga2 (fun _=>?_) fun _=>?_|refine Ga3 ?_|refine Ga4 fun _=>?_|fail)
  refine OW.call (modelNew x.1 q _) ?_
  intro u L2 hu
  rw [if_pos hqk] at hu
  obtain ⟨bn, bp, rfl, rfl⟩ := hu
  have hwf := start_wf hqk
  repeat' (first|refine Ga0 fun _=>?_|refine Ga1 ?_|refine Ga2 (fun _=>?_) fun _=>?_|refine Ga3 ?_|refine Ga4 fun _=>?_|fail)
  refine OW.call (jCallsE v ws x _ _ hw hwl) ?_
  rintro u _ ⟨es, hes, hsc, hbs, hel, ⟨rfl, rfl, rfl⟩ | ⟨b, cap, rest, rfl, rfl, hcap⟩⟩
  ·have hdn : ([] : List Cl) = (callsOf x ws 0).filter fun c => !noWork c := by rw [← hes]; rfl
   have hvn : verdict ⟨x.1, q, []⟩ [] = (0, 0) := rfl
   repeat' (first|refine Ga0 fun _=>?_|refine Ga1 ?_|refine Ga2 (fun _=>?_) fun _=>?_|refine Ga3 ?_|refine Ga4 fun _=>?_|fail)
   refine OW.call (jDel0 _ _ [] noWork ii _ ⟨rfl, .inl ⟨⟨_, _, rfl⟩, rfl⟩⟩ hsc (by decide) (fun _ h => (by cases h)) (fun c vx vb L' s1 s2 => FnP.vp (first := #[]) (cap := #[]) (jWk c vx vb L'))) ?_
   rintro _ _ ⟨rfl, rfl⟩
   repeat' (first|refine Ga0 fun _=>?_|refine Ga1 ?_|refine Ga2 (fun _=>?_) fun _=>?_|refine Ga3 ?_|refine Ga4 fun _=>?_|fail)
   refine OW.call (jSort0 _ _ 0 none 0 rfl ii _ (by decide)) ?_
   rintro _ _ rfl
   repeat' (first|refine Ga0 fun _=>?_|refine Ga1 ?_|refine Ga2 (fun _=>?_) fun _=>?_|refine Ga3 ?_|refine Ga4 fun _=>?_|fail)
   refine CW.count 0 (fun i ρ ds Lx => ds = [] ∧ Lx = (bn, .cells (mcells ⟨x.1, q, []⟩ bp).toArray 142 (0, 0)) :: (bp, .map #[] 0) :: (N1 ++ (b6, .cells #[.int .i64 0, .int .i64 0] 27 (0, 0)) :: (b5, xCell x) :: L) ∧ Ev ρ 6 (.pointer (some ⟨b6, 0, none⟩)) ∧ Ev ρ 9 (.int .i64 0) ∧ Ev ρ 51 (.int .i64 0) ∧ Ev ρ 52 (.int .i64 0))
    ⟨rfl, rfl, ii, ii, ii, ii⟩ ?_
   rintro i ρ ds Lx hi ⟨rfl, rfl, e6, e9, e51, e52⟩
   repeat' (first|refine Ga0 fun _=>?_|refine Ga1 ?_|refine Ga2 (fun _=>?_) fun _=>?_|refine Ga3 ?_|refine Ga4 fun _=>?_|fail)
   exact bodyK.retD L (Res.of2 Tryz.results10) ⟨judged_d hws c1 c2 hq hq1 hdn (.refl _) hvn, rfl⟩
  ·have hkm := keptC_map noWork es
   rw [hes] at hkm
   rw [← hkm, List.length_map] at hM
   have hsc' : CEs (keptC noWork es) := fun e he => hsc e (List.mem_filter.1 he).1
   have hkl : (keptC noWork es).length ≤ es.length := List.length_filter_le ..
   have hbs' := fun e (he : e ∈ keptC noWork es) => hbs e (List.mem_filter.1 he).1
   repeat' (first|refine Ga0 fun _=>?_|refine Ga1 ?_|refine Ga2 (fun _=>?_) fun _=>?_|refine Ga3 ?_|refine Ga4 fun _=>?_|fail)
   refine OW.call (jDel b 0 cap _ [] rest es noWork ii _ rfl hsc hcap (by omega) (fun c vx vb L' s1 s2 => FnP.vp (first := #[]) (cap := #[]) (jWk c vx vb L'))) ?_
   rintro _ _ ⟨rest', rfl, rfl, hrl⟩
   clear hbs hsc hes
   generalize keptC noWork es = ks at *
   repeat' (first|refine Ga0 fun _=>?_|refine Ga1 ?_|refine Ga2 (fun _=>?_) fun _=>?_|refine Ga3 ?_|refine Ga4 fun _=>?_|fail)
   refine OW.call (hsort b 0 cap [] rest' ks _ rfl hsc' (fun e he => ⟨(hbs' e he).2.2.w0, by have := (hbs' e he).2.2.w1; omega⟩) (by omega) hM) ?_
   rintro _ _ ⟨es2, hp, rfl⟩
   have hl2 := hp.length_eq
   have hb2 := fun e (he : e ∈ es2) => hbs' e (hp.mem_iff.1 he)
   have hpm : (es2.map Prod.fst).Perm (ks.map Prod.fst) := hp.map _
   rw [← hl2]
   repeat' (first|refine Ga0 fun _=>?_|refine Ga1 ?_|refine Ga2 (fun _=>?_) fun _=>?_|refine Ga3 ?_|refine Ga4 fun _=>?_|fail)
   refine CW.count es2.length (fun i ρ ds Lx => ∃ (X : Chunk) (m : Mod) (bp' : Nat), ds = [] ∧ Lx = X ++ ((b, .cells ([] ++ (flR clE es2 ++ rest')).toArray 123 (0, 0)) :: (bn, .cells (mcells m bp').toArray 142 (0, 0)) :: (bp, .map #[] 0) :: (N1 ++ (b6, .cells #[.int .i64 0, .int .i64 0] 27 (0, 0)) :: (b5, xCell x) :: L)) ∧ WF m ∧ MRest (X ++ ((b, .cells ([] ++ (flR clE es2 ++ rest')).toArray 123 (0, 0)) :: (bp, .map #[] 0) :: (N1 ++ (b6, .cells #[.int .i64 0, .int .i64 0] 27 (0, 0)) :: (b5, xCell x) :: L))) bp' m ∧
     verdict m ((es2.map Prod.fst).drop i) = verdict ⟨x.1, q, []⟩ (es2.map Prod.fst) ∧ Ev ρ 6 (.pointer (some ⟨b6, 0, none⟩)) ∧ Ev ρ 9 (.int .i64 0) ∧ Ev ρ 12 (.pointer (some ⟨bn, 0, none⟩)) ∧ Ev ρ 50 (.slice (some ⟨b, 0, none⟩) es2.length cap) ∧ Ev ρ 51 (.int .i64 (es2.length : Int)) ∧ Ev ρ 52 (.int .i64 (i : Int)))
    ⟨[], ⟨x.1, q, []⟩, bp, rfl, rfl, hwf, ⟨[], 0, [], ii, KV.nil _, ⟨rfl, fun _ h => (by cases h)⟩, .refl _⟩, rfl, ii, ii, ii, ii, ii, ii⟩ ?_
   clear hwf
   rintro i ρ ds Lx hi ⟨X, m, bp', rfl, rfl, hwf, hmr, hvd, e6, e9, e12, e50, e51, e52⟩
   by_cases hlt : i < es2.length
   ·have hlti : (i : Int) < es2.length := by omega
    have hcut := flR_cut (f := clE) clE_len (pre := []) (rest := rest') rfl hlt
    rw [show ([] : List Value).length = 0 from rfl, Nat.zero_add] at hcut
    obtain ⟨h1, h2, h3⟩ := hb2 _ (List.getElem_mem hlt)
    rw [verdict_step (by rw [List.length_map]; exact hlt), List.getElem_map] at hvd
    clear hb2 hbs' hsc'
    generalize es2[i] = e at *
    obtain ⟨c, vx, vb⟩ := e
    simp only [clE] at hcut h1 h2 h3 hvd
    have q1 := h1.sng
    have q2 := h2.sng
    have hout := h3.out
    have hop := h3.op
    obtain ⟨op, work, told, out, steps⟩ := c
    simp only at h1 h2 hvd hout hop
    cases told with
    | false =>
     rw [if_pos rfl] at hvd
     repeat' (first|refine Ga0 fun _=>?_|refine Ga1 ?_|refine Ga2 (fun _=>?_) fun _=>?_|refine Ga3 ?_|refine Ga4 fun _=>?_|fail)
     rename_i b15
     refine OW.call (jAsks ⟨op, work, false, out, steps⟩ vx vb _) ?_
     rintro _ _ ⟨rfl, rfl⟩
     by_cases ha : asksC ⟨op, work, false, out, steps⟩
     ·rw [decide_eq_true ha]
      rw [if_pos ha] at hvd
      repeat' (first|refine Ga0 fun _=>?_|refine Ga1 ?_|refine Ga2 (fun _=>?_) fun _=>?_|refine Ga3 ?_|refine Ga4 fun _=>?_|fail)
      exact ⟨hlt, _ :: X, m, bp', rfl, rfl, hwf, hmr.to, hvd, ii, ii, ii, ii, ii, by rw [Int.natCast_add]; infer_instance⟩
     ·rw [decide_eq_false ha]
      rw [if_neg ha] at hvd
      repeat' (first|refine Ga0 fun _=>?_|refine Ga1 ?_|refine Ga2 (fun _=>?_) fun _=>?_|refine Ga3 ?_|refine Ga4 fun _=>?_|fail)
      exact bodyK.retD L (Res.of2 Tryz.results10) ⟨judged_d hws c1 c2 hq hq1 hkm hpm hvd.symm, rfl⟩
    | true =>
     rw [if_neg (by decide)] at hvd
     repeat' (first|refine Ga0 fun _=>?_|refine Ga1 ?_|refine Ga2 (fun _=>?_) fun _=>?_|refine Ga3 ?_|refine Ga4 fun _=>?_|fail)
     refine OW.call (jDo bn bp' m hwf op hop out vx vb _ h1.to ?_ h2.to hout) ?_
     ·exact hmr.to
     rintro _ _ ⟨N, b2, rfl, rfl, hmr2⟩
     cases hd : (Md.next m op out).2 with
     | true =>
      rw [if_pos hd] at hvd
      have haf := after_of hd
      rw [← haf] at hvd
      repeat' (first|refine Ga0 fun _=>?_|refine Ga1 ?_|refine Ga2 (fun _=>?_) fun _=>?_|refine Ga3 ?_|refine Ga4 fun _=>?_|fail)
      exact ⟨hlt, N ++ _ :: X, after m op out, b2, rfl, (List.append_assoc N (_ :: X) _).symm, wf_after hwf h1 h2 hout, hmr2.to, hvd, ii, ii, ii, ii, ii, by rw [Int.natCast_add]; infer_instance⟩
     | false =>
      rw [if_neg (by rw [hd]; decide)] at hvd
      repeat' (first|refine Ga0 fun _=>?_|refine Ga1 ?_|refine Ga2 (fun _=>?_) fun _=>?_|refine Ga3 ?_|refine Ga4 fun _=>?_|fail)
      exact bodyK.retD L (Res.of2 Tryz.results10) ⟨judged_d hws c1 c2 hq hq1 hkm hpm hvd.symm, rfl⟩
   ·obtain rfl : i = es2.length := by omega
    rw [show (es2.map Prod.fst).drop es2.length = [] by rw [← List.length_map (f := Prod.fst), List.drop_length]] at hvd
    repeat' (first|refine Ga0 fun _=>?_|refine Ga1 ?_|refine Ga2 (fun _=>?_) fun _=>?_|refine Ga3 ?_|refine Ga4 fun _=>?_|fail)
    exact bodyK.retD L (Res.of2 Tryz.results10) ⟨judged_d hws c1 c2 hq hq1 hkm hpm hvd.symm, rfl⟩
end Go.Proofs.YtmnhooepaemlcaaGreat
