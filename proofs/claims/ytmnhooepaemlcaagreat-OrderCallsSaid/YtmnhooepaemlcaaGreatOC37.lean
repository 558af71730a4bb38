/- OrderCalls: true for every input; arguments as before. Part 37. Conditions: none. -/
import Derived.Test.YtmnhooepaemlcaaGreatOC2
import Derived.Test.YtmnhooepaemlcaaGreatOC16
import Derived.Test.YtmnhooepaemlcaaGreatOC30
import Derived.Test.YtmnhooepaemlcaaGreatOC36
set_option linter.all false
namespace Go.Proofs.YtmnhooepaemlcaaGreat
open Go Go.Pw Go.Pw.Sc Go.Pw.Md Go.Pw.Jd Go.Pw.Or
set_option maxRecDepth 100000
set_option maxHeartbeats 4000000
set_option synthInstance.maxHeartbeats 400000
set_option synthInstance.maxSize 2000
attribute [local irreducible] CW OW RW thenK blockK
attribute [local irreducible] scopeK loopK TRW ATW
theorem quota_range {l : List Row} {x : Hd} (h : (quotaOf l x).2 = true) : okS x.1 (quotaOf l x).1 := by
 unfold quotaOf at h ⊢
 cases hf : l.find? (creates x) with
 | none => rw [hf] at h; cases h
 | some w =>
  rw [hf] at h
  have h1 := of_decide_eq_true h
  have h3 : creates x w = true := List.find?_some hf
  have h2 := of_decide_eq_true h3
  exact ⟨h1.2.1, h1.2.2, h2.2.2.1, h2.2.2.2⟩
theorem rJudge26 (vl vr : Value) (ts : List Turn) (rs : List Rp) (x : Hd) (L : Chunk) (hl : LS 13 TnAt L vl ts) (hr : LS 11 RpAt L vr rs) (hx : inR .i64 x.1 ∧ inR .i64 x.2) (hb : ts.length ≤ 4096) :
  Fn1 Tryz.prog 77 [vl, vr, hdV x] L (fun u L' => (∃ a b, u = .tuple #[.agg #[.int .i64 a, .int .i64 b], .int .i64 (askE ts rs x)]) ∧ L = L') := by
 have sl := hl.sng
 have sr := hr.sng
 intro w0; refine Spec.enter3 Tryz.func77 rfl Tryz.ntmps77 (by decide) ?_
 repeat' (first|refine Ga0 fun _=>?_|refine Ga1 ?_|refine Ga2 (fun _=>?_) fun _=>?_|refine Ga3 ?_|refine Ga4 fun _=>?_|fail)
 rename_i b5 b6
 refine OW.call (rCheck26 vl vr ts rs _ (LS.to hl (fun c a h => TnAt.to c a h)) (LS.to hr (fun c a h => RpAt.to c a h))) ?_
 rintro _ _ ⟨rfl, rfl⟩
 by_cases hlen : ts.length = rs.length
 ·rw [if_neg (show ¬ ts.length ≠ rs.length by simp [hlen]), if_neg (show ¬ 4096 < ts.length by omega)]
  repeat' (first|refine Ga0 fun _=>?_|refine Ga1 ?_|refine Ga2 (fun _=>?_) fun _=>?_|refine Ga3 ?_|refine Ga4 fun _=>?_|fail)
  refine OW.call (rQuota26 vl vr ts rs x _ (LS.to hl (fun c a h => TnAt.to c a h)) (LS.to hr (fun c a h => RpAt.to c a h)) hlen hb) ?_
  rintro _ _ ⟨rfl, rfl⟩
  cases hq : (quotaOf (rows (ts.zip rs)) x).2 with
  | false =>
   have hask : askE ts rs x = 311 := by unfold askE; rw [if_neg (by simp [hlen]), if_neg (by omega), if_pos hq]
   rw [show quoV (rows (ts.zip rs)) x = -1 by unfold quoV; rw [hq]; rfl, hask]
   repeat' (first|refine Ga0 fun _=>?_|refine Ga1 ?_|refine Ga2 (fun _=>?_) fun _=>?_|refine Ga3 ?_|refine Ga4 fun _=>?_|fail)
   exact bodyK.retD L (Res.of2 Tryz.results77) ⟨⟨_, _, rfl⟩, rfl⟩
  | true =>
   have hask : askE ts rs x = 0 := by unfold askE; rw [if_neg (by simp [hlen]), if_neg (by omega), if_neg (by rw [hq]; simp)]
   have hok := quota_range hq
   rw [show quoV (rows (ts.zip rs)) x = (quotaOf (rows (ts.zip rs)) x).1 by unfold quoV; rw [hq]; rfl, hask]
   generalize (quotaOf (rows (ts.zip rs)) x).1 = q at *
   have hq0 : 0 ≤ q := hok.2.2.1
   repeat' (first|refine Ga0 fun _=>?_|refine Ga1 ?_|refine Ga2 (fun _=>?_) fun _=>?_|refine Ga3 ?_|refine Ga4 fun _=>?_|fail)
   refine OW.call (rCalls vl vr ts rs x _ (LS.to hl (fun c a h => TnAt.to c a h)) (LS.to hr (fun c a h => RpAt.to c a h)) hx hlen hb) ?_
   rintro vc _ ⟨N, os, rfl, hos, hol⟩
   obtain ⟨ac, cc, hvc⟩ := hos.slice
   subst hvc
   obtain ⟨al, cl, hal⟩ := hl.slice
   subst hal
   have hll : (ts.length : Int) ≤ 4096 := by omega
   have hol' : (os.length : Int) ≤ 4096 := by omega
   repeat' (first|refine Ga0 fun _=>?_|refine Ga1 ?_|refine Ga2 (fun _=>?_) fun _=>?_|refine Ga3 ?_|refine Ga4 fun _=>?_|fail)
   rename_i b11
   refine CW.count ts.length (fun i ρ ds L' => ds = [] ∧ (∃ X m w, Sng w ∧ RL (X ++ L) w m.L ∧ WF m ∧ L' = X ++ ((b11, .cells #[.int .i64 m.slot, .int .i64 m.quota, w] 72 (0, 0)) :: (N ++ ((b6, .cells #[.int .i64 0, .int .i64 0] 27 (0, 0)) :: (b5, b5C x) :: L)))) ∧
     Ev ρ 0 (.slice al ts.length cl) ∧ Ev ρ 6 (ptr b6) ∧ Ev ρ 10 (.slice ac os.length cc) ∧ Ev ρ 11 (ptr b11) ∧ Ev ρ 12 (.int .i64 (i : Int))) ?_ ?_
   ·exact ⟨rfl, ⟨[], ⟨x.1, q, []⟩, .slice none 0 0, ii, ⟨⟨[], ⟨rfl, .inl ⟨⟨_, _, rfl⟩, rfl⟩⟩, rfl⟩, by simp⟩, wf_new hok, rfl⟩, ii, ii, ii, ii, ii⟩
   rintro i ρ ds L' hi ⟨rfl, ⟨X, m, w, sw, hrl, hwf, rfl⟩, e0, e6, e10, e11, e12⟩
   by_cases hlt : i < ts.length
   ·have hlti : (i : Int) < ts.length := by omega
    repeat' (first|refine Ga0 fun _=>?_|refine Ga1 ?_|refine Ga2 (fun _=>?_) fun _=>?_|refine Ga3 ?_|refine Ga4 fun _=>?_|fail)
    refine CW.count os.length (fun k ρ ds L' => ds = [] ∧ (∃ X m w, Sng w ∧ RL (X ++ L) w m.L ∧ WF m ∧ L' = X ++ ((b11, .cells #[.int .i64 m.slot, .int .i64 m.quota, w] 72 (0, 0)) :: (N ++ ((b6, .cells #[.int .i64 0, .int .i64 0] 27 (0, 0)) :: (b5, b5C x) :: L)))) ∧
     Ev ρ 0 (.slice al ts.length cl) ∧ Ev ρ 6 (ptr b6) ∧ Ev ρ 10 (.slice ac os.length cc) ∧ Ev ρ 11 (ptr b11) ∧ Ev ρ 12 (.int .i64 (i : Int)) ∧ Ev ρ 13 (.int .i64 (k : Int))) ?_ ?_
    ·exact ⟨rfl, ⟨X, m, w, sw, hrl, hwf, rfl⟩, ii, ii, ii, ii, ii, ii⟩
    clear hrl hwf sw e0 e6 e10 e11 e12
    clear X m w
    rintro k ρ ds L' hk ⟨rfl, ⟨X, m, w, sw, hrl, hwf, rfl⟩, e0, e6, e10, e11, e12, e13⟩
    by_cases hlk : k < os.length
    ·obtain ⟨bk, kk, capk, lk, ek, frk, hbe, hbin, hbc, hbn⟩ := hos.open (by omega)
     cases hbe
     obtain ⟨cc, hcut, vx, vb, rfl, hvx, hvb, hcr⟩ := hbn k hlk
     have hki : (k : Int) < os.length := by omega
     clear hbn
     generalize os[k] = c at *
     obtain ⟨op, work, told, out, steps⟩ := c
     have q1 := hvx.sng
     have q2 := hvb.sng
     have hop : OpR0 op := hcr.op
     have hout : OutR0 out := hcr.out
     have hvx : BS _ vx op.bytes := hvx
     have hvb : BS _ vb out.bytes := hvb
     by_cases w1 : work = i
     ·cases told with
      | false =>
       simp only [rcC] at hcut
       by_cases k5 : op.kind = 5
       ·repeat' (first|refine Ga0 fun _=>?_|refine Ga1 ?_|refine Ga2 (fun _=>?_) fun _=>?_|refine Ga3 ?_|refine Ga4 fun _=>?_|fail)
        exact ⟨hlk, rfl, ⟨_ :: X, m, w, sw, hrl.to', hwf, rfl⟩, ii, ii, ii, ii, ii, by rw [Int.natCast_add]; infer_instance⟩
       ·by_cases k6 : op.kind = 6
        ·repeat' (first|refine Ga0 fun _=>?_|refine Ga1 ?_|refine Ga2 (fun _=>?_) fun _=>?_|refine Ga3 ?_|refine Ga4 fun _=>?_|fail)
         exact ⟨hlk, rfl, ⟨_ :: X, m, w, sw, hrl.to', hwf, rfl⟩, ii, ii, ii, ii, ii, by rw [Int.natCast_add]; infer_instance⟩
        ·repeat' (first|refine Ga0 fun _=>?_|refine Ga1 ?_|refine Ga2 (fun _=>?_) fun _=>?_|refine Ga3 ?_|refine Ga4 fun _=>?_|fail)
         exact bodyK.retD L (Res.of2 Tryz.results77) ⟨⟨_, _, rfl⟩, rfl⟩
      | true =>
       simp only [rcC] at hcut
       repeat' (first|refine Ga0 fun _=>?_|refine Ga1 ?_|refine Ga2 (fun _=>?_) fun _=>?_|refine Ga3 ?_|refine Ga4 fun _=>?_|fail)
       refine OW.call (kind_ op.kind _) ?_
       rintro _ _ ⟨rfl, rfl⟩
       by_cases hkd : 1 ≤ op.kind ∧ op.kind ≤ 7
       ·rw [decide_eq_true hkd]
        repeat' (first|refine Ga0 fun _=>?_|refine Ga1 ?_|refine Ga2 (fun _=>?_) fun _=>?_|refine Ga3 ?_|refine Ga4 fun _=>?_|fail)
        refine OW.call (rDo m hwf w op (opR_ hop) hkd out vx vb (outR_ hout) (X ++ L) _ (hD := ⟨fun q hq => by rcases List.mem_append.1 hq with hq | hq <;> simp [hq]⟩) hrl hvx.to hvb.to) ?_
        rintro _ _ ⟨m', v', N2, rfl, rfl, sv', hm'⟩
        cases hmm : (Md.step m op out).2 with
        | false =>
         repeat' (first|refine Ga0 fun _=>?_|refine Ga1 ?_|refine Ga2 (fun _=>?_) fun _=>?_|refine Ga3 ?_|refine Ga4 fun _=>?_|fail)
         exact bodyK.retD L (Res.of2 Tryz.results77) ⟨⟨_, _, rfl⟩, rfl⟩
        | true =>
         obtain ⟨rfl, hrl'⟩ := hm' hmm
         have hw' := step_wf hwf hout.ad.1 (fun z hz => by have := hvx.byt z hz; omega) (fun z hz => by have := hvb.byt z hz; omega) hmm
         repeat' (first|refine Ga0 fun _=>?_|refine Ga1 ?_|refine Ga2 (fun _=>?_) fun _=>?_|refine Ga3 ?_|refine Ga4 fun _=>?_|fail)
         rename_i b14 b15 _
         exact ⟨hlk, rfl, ⟨N2 ++ ((b15, _) :: (b14, _) :: X), _, v', sv', LS.to (hm := ⟨fun q hq => by simp only [List.mem_append, List.mem_cons] at hq ⊢; grind⟩) hrl' (fun c a h => PcR.to c a h), hw', by rw [List.append_assoc]; rfl⟩, ii, ii, ii, ii, ii, by rw [Int.natCast_add]; infer_instance⟩
       ·rw [decide_eq_false hkd]
        repeat' (first|refine Ga0 fun _=>?_|refine Ga1 ?_|refine Ga2 (fun _=>?_) fun _=>?_|refine Ga3 ?_|refine Ga4 fun _=>?_|fail)
        exact bodyK.retD L (Res.of2 Tryz.results77) ⟨⟨_, _, rfl⟩, rfl⟩
     ·simp only [rcC] at hcut
      repeat' (first|refine Ga0 fun _=>?_|refine Ga1 ?_|refine Ga2 (fun _=>?_) fun _=>?_|refine Ga3 ?_|refine Ga4 fun _=>?_|fail)
      exact ⟨hlk, rfl, ⟨_ :: X, m, w, sw, hrl.to', hwf, rfl⟩, ii, ii, ii, ii, ii, by rw [Int.natCast_add]; infer_instance⟩
    ·obtain rfl : k = os.length := by omega
     repeat' (first|refine Ga0 fun _=>?_|refine Ga1 ?_|refine Ga2 (fun _=>?_) fun _=>?_|refine Ga3 ?_|refine Ga4 fun _=>?_|fail)
     exact ⟨hlt, rfl, ⟨X, m, w, sw, hrl, hwf, rfl⟩, ii, ii, ii, ii, by rw [Int.natCast_add]; infer_instance⟩
   ·obtain rfl : i = ts.length := by omega
    repeat' (first|refine Ga0 fun _=>?_|refine Ga1 ?_|refine Ga2 (fun _=>?_) fun _=>?_|refine Ga3 ?_|refine Ga4 fun _=>?_|fail)
    exact bodyK.retD L (Res.of2 Tryz.results77) ⟨⟨_, _, rfl⟩, rfl⟩
 ·have hask : askE ts rs x = 2 := by unfold askE; rw [if_pos hlen]
  rw [if_pos hlen, hask]
  repeat' (first|refine Ga0 fun _=>?_|refine Ga1 ?_|refine Ga2 (fun _=>?_) fun _=>?_|refine Ga3 ?_|refine Ga4 fun _=>?_|fail)
  exact bodyK.retD L (Res.of2 Tryz.results77) ⟨⟨_, _, rfl⟩, rfl⟩
def RoAt (L : Chunk) (c : List Value) (a : Turn × Rp) : Prop := ∃ vb vd vo, c = tcells a.1 vb vd ++ rcells a.2 vo ∧ BS L vb a.1.obytes ∧ BS L vd a.1.draws ∧ BS L vo a.2.obytes ∧ TR a.1 ∧ RR a.2
theorem RoAt.to {L L' : Chunk} [hm : MemC L L'] (c : List Value) (a : Turn × Rp) (h : RoAt L c a) : RoAt L' c a := let ⟨x, y, z, e, h1, h2, h3, h4⟩ := h; ⟨x, y, z, e, h1.to, h2.to, h3.to, h4⟩
def fitP (a : Turn × Rp) : Prop := a.1.obytes.length ≤ 100 ∧ a.1.draws.length ≤ 100 ∧ a.2.obytes.length ≤ 300 ∧ ¬ (300 < a.1.omany ∧ a.1.omany ≤ 16777216)
instance (a : Turn × Rp) : Decidable (fitP a) := by unfold fitP; infer_instance
def fitL (l : List (Turn × Rp)) (most : Int) : Bool := l.all (fun a => decide (fitP a)) && decide ((l.length : Int) ≤ most)
theorem fit30 (v : Value) (l : List (Turn × Rp)) (most : Int) (L : Chunk) (hl : LS 24 RoAt L v l) : Fn1 Tryz.prog 29 [v, .int .i64 most] L (fun u L' => u = .bool (fitL l most) ∧ L = L') := by
 obtain ⟨al, cl, rfl⟩ := hl.slice
 have hll := hl.len
 intro w0; refine Spec.enter2 Tryz.func29 rfl Tryz.ntmps29 (by decide) ?_
 repeat' (first|refine Ga0 fun _=>?_|refine Ga1 ?_|refine Ga2 (fun _=>?_) fun _=>?_|refine Ga3 ?_|refine Ga4 fun _=>?_|fail)
 refine CW.count l.length (fun i ρ ds L' => ds = [] ∧ (l.take i).all (fun a => decide (fitP a)) = true ∧ (∃ X, L' = X ++ L) ∧ Ev ρ 0 (.slice al l.length cl) ∧ Ev ρ 1 (.int .i64 most) ∧ Ev ρ 5 (.int .i64 (i : Int))) ⟨rfl, rfl, ⟨[], rfl⟩, ii, ii, ii⟩ ?_
 rintro i ρ ds L' hi ⟨rfl, hal, ⟨X, rfl⟩, e0, e1, e5⟩
 by_cases hlt : i < l.length
 ·obtain ⟨bk, kk, capk, lk, ek, frk, hbe, hbin, hbc, hbn⟩ := hl.open (by omega)
  cases hbe
  obtain ⟨cc, hcut, vb, vd, vo, rfl, hvb, hvd, hvo, htr, hrr⟩ := hbn i hlt
  have hlti : (i : Int) < l.length := by omega
  have hts : l.take (i + 1) = l.take i ++ [l[i]] := by rw [List.take_add_one, List.getElem?_eq_getElem hlt]; rfl
  have hmem : l[i] ∈ l := List.getElem_mem hlt
  have hno : ¬ fitP l[i] → fitL l most = false := fun h => by
   unfold fitL
   rw [Bool.and_eq_false_iff]
   left
   rw [List.all_eq_false]
   exact ⟨_, hmem, by simpa using h⟩
  have hyes : fitP l[i] → (l.take (i + 1)).all (fun a => decide (fitP a)) = true := fun h => by rw [hts, List.all_append, hal]; simp [h]
  clear hbn hmem hts
  generalize l[i] = a at *
  obtain ⟨t, r⟩ := a
  simp only at hvb hvd hvo
  simp only [tcells, rcells, List.cons_append, List.nil_append] at hcut
  have q1 := hvb.sng
  have q2 := hvd.sng
  have q3 := hvo.sng
  obtain ⟨ab, cb, rfl⟩ := hvb.slice
  obtain ⟨ad, cd, rfl⟩ := hvd.slice
  obtain ⟨ao, co, rfl⟩ := hvo.slice
  have n1 := hvb.len
  have n2 := hvd.len
  have n3 := hvo.len
  by_cases c1 : (100 : Int) < t.obytes.length
  ·rw [hno (fun h => by have := h.1; simp only at this; omega)]
   repeat' (first|refine Ga0 fun _=>?_|refine Ga1 ?_|refine Ga2 (fun _=>?_) fun _=>?_|refine Ga3 ?_|refine Ga4 fun _=>?_|fail)
   exact bodyK.retD L (Res.one Tryz.results29) ⟨rfl, rfl⟩
  ·by_cases c2 : (100 : Int) < t.draws.length
   ·rw [hno (fun h => by have := h.2.1; simp only at this; omega)]
    repeat' (first|refine Ga0 fun _=>?_|refine Ga1 ?_|refine Ga2 (fun _=>?_) fun _=>?_|refine Ga3 ?_|refine Ga4 fun _=>?_|fail)
    exact bodyK.retD L (Res.one Tryz.results29) ⟨rfl, rfl⟩
   ·by_cases c3 : (300 : Int) < r.obytes.length
    ·rw [hno (fun h => by have := h.2.2.1; simp only at this; omega)]
     repeat' (first|refine Ga0 fun _=>?_|refine Ga1 ?_|refine Ga2 (fun _=>?_) fun _=>?_|refine Ga3 ?_|refine Ga4 fun _=>?_|fail)
     exact bodyK.retD L (Res.one Tryz.results29) ⟨rfl, rfl⟩
    ·by_cases c4 : 300 < t.omany
     ·by_cases c5 : t.omany ≤ 16777216
      ·rw [hno (fun h => h.2.2.2 ⟨c4, c5⟩)]
       repeat' (first|refine Ga0 fun _=>?_|refine Ga1 ?_|refine Ga2 (fun _=>?_) fun _=>?_|refine Ga3 ?_|refine Ga4 fun _=>?_|fail)
       exact bodyK.retD L (Res.one Tryz.results29) ⟨rfl, rfl⟩
      ·have hy := hyes ⟨by simp only; omega, by simp only; omega, by simp only; omega, fun h => c5 h.2⟩
       repeat' (first|refine Ga0 fun _=>?_|refine Ga1 ?_|refine Ga2 (fun _=>?_) fun _=>?_|refine Ga3 ?_|refine Ga4 fun _=>?_|fail)
       exact ⟨hlt, rfl, hy, ⟨_ :: X, rfl⟩, ii, ii, by rw [Int.natCast_add]; infer_instance⟩
     ·have hy := hyes ⟨by simp only; omega, by simp only; omega, by simp only; omega, fun h => c4 h.1⟩
      repeat' (first|refine Ga0 fun _=>?_|refine Ga1 ?_|refine Ga2 (fun _=>?_) fun _=>?_|refine Ga3 ?_|refine Ga4 fun _=>?_|fail)
      exact ⟨hlt, rfl, hy, ⟨_ :: X, rfl⟩, ii, ii, by rw [Int.natCast_add]; infer_instance⟩
 ·obtain rfl : i = l.length := by omega
  rw [List.take_length] at hal
  rw [show fitL l most = decide ((l.length : Int) ≤ most) by unfold fitL; rw [hal, Bool.true_and]]
  by_cases c : (l.length : Int) ≤ most
  ·rw [decide_eq_true c]
   repeat' (first|refine Ga0 fun _=>?_|refine Ga1 ?_|refine Ga2 (fun _=>?_) fun _=>?_|refine Ga3 ?_|refine Ga4 fun _=>?_|fail)
   exact bodyK.retD L (Res.one Tryz.results29) ⟨rfl, rfl⟩
  ·rw [decide_eq_false c]
   repeat' (first|refine Ga0 fun _=>?_|refine Ga1 ?_|refine Ga2 (fun _=>?_) fun _=>?_|refine Ga3 ?_|refine Ga4 fun _=>?_|fail)
   exact bodyK.retD L (Res.one Tryz.results29) ⟨rfl, rfl⟩
end Go.Proofs.YtmnhooepaemlcaaGreat
