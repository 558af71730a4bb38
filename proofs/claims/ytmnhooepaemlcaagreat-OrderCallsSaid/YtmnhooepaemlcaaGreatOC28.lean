/- OrderCalls: true for every input; arguments as before. Part 28. Conditions: none. -/
import Derived.Test.YtmnhooepaemlcaaGreatOC2
import Derived.Test.YtmnhooepaemlcaaGreatOC3
import Derived.Test.YtmnhooepaemlcaaGreatOC16
import Derived.Test.YtmnhooepaemlcaaGreatOC27
set_option linter.all false
namespace Go.Proofs.YtmnhooepaemlcaaGreat
open Go Go.Pw Go.Pw.Sc Go.Pw.Md Go.Pw.Jd Go.Pw.Or
set_option maxRecDepth 100000
set_option maxHeartbeats 4000000
set_option synthInstance.maxHeartbeats 400000
set_option synthInstance.maxSize 2000
attribute [local irreducible] CW OW RW thenK blockK
attribute [local irreducible] scopeK loopK TRW ATW
theorem rows_pre {W : List (Turn × Rp)} {k : Nat} (hk : k ≤ W.length) : ∃ S, rows W = rows (W.take k) ++ S := by
 have h : ∀ d k, k + d = W.length → ∃ S, rows W = rows (W.take k) ++ S := by
  intro d
  induction d with
  | zero => intro k hk; exact ⟨[], by rw [List.take_of_length_le (by omega)]; simp⟩
  | succ d ih =>
   intro k hk
   obtain ⟨S, hS⟩ := ih (k + 1) (by omega)
   exact ⟨_, by rw [hS, (rows_take (show k < W.length by omega)).1, List.append_assoc]⟩
 exact h (W.length - k) k (by omega)
theorem quota_hit {W : List (Turn × Rp)} {x : Hd} {i : Nat} (hi : i < W.length) (hn : (rows (W.take i)).find? (creates x) = none) (hc : ∀ B, creates x ⟨W[i].1, W[i].2, i, B⟩ = true) (hq : (quotaOf (rows W) x).2 = true) : quotaOf (rows W) x = (W[i].1.quota, true) := by
 obtain ⟨S, hS⟩ := rows_pre (show i + 1 ≤ W.length by omega)
 have hf : (rows W).find? (creates x) = some ⟨W[i].1, W[i].2, i, bnd (W.take i)⟩ := by
  rw [hS, (rows_take hi).1, List.find?_append, List.find?_append, hn]
  simp [hc]
 unfold quotaOf at hq ⊢
 rw [hf] at hq ⊢
 simp only at hq ⊢
 rw [hq]
theorem quota_miss {W : List (Turn × Rp)} {x : Hd} {i : Nat} (hi : i < W.length) (hn : (rows (W.take i)).find? (creates x) = none) (hc : ∀ B, creates x ⟨W[i].1, W[i].2, i, B⟩ = false) : (rows (W.take (i + 1))).find? (creates x) = none := by
 rw [(rows_take hi).1, List.find?_append, hn]
 simp [hc]
theorem quota_none {l : List Row} {x : Hd} (hn : l.find? (creates x) = none) (hq : (quotaOf l x).2 = true) : False := by
 unfold quotaOf at hq
 rw [hn] at hq
 cases hq
theorem ask_zero {ts : List Turn} {rs : List Rp} {x : Hd} (h : askE ts rs x = 0) : ts.length = rs.length ∧ ts.length ≤ 4096 ∧ (quotaOf (rows (ts.zip rs)) x).2 = true := by
 unfold askE at h
 by_cases h1 : ts.length = rs.length
 ·by_cases h2 : ts.length ≤ 4096
  ·refine ⟨h1, h2, ?_⟩
   rw [if_neg (by rw [h1]; simp), if_neg (by omega)] at h
   cases h3 : (quotaOf (rows (ts.zip rs)) x).2 with
   | true => rfl
   | false => rw [h3] at h; cases h
  ·rw [if_neg (by rw [h1]; simp), if_pos (by omega)] at h; cases h
 ·rw [if_pos h1] at h; cases h
theorem ask_cases (ts : List Turn) (rs : List Rp) (x : Hd) : askE ts rs x = 0 ∨ askE ts rs x = 2 ∨ askE ts rs x = 3 ∨ askE ts rs x = 311 := by
 unfold askE
 split
 ·exact .inr (.inl rfl)
 ·split
  ·exact .inr (.inr (.inl rfl))
  ·split
   ·exact .inr (.inr (.inr rfl))
   ·exact .inl rfl
def askQ (ts : List Turn) (rs : List Rp) (x : Hd) : Int := if askE ts rs x = 0 then (quotaOf (rows (ts.zip rs)) x).1 else 0
theorem ocQuota (vl vr : Value) (ts : List Turn) (rs : List Rp) (x : Hd) (L : Chunk) (hl : LS 13 TnAt L vl ts) (hr : LS 11 RpAt L vr rs) (hx : inR .i64 x.1 ∧ inR .i64 x.2) (hb : ts.length ≤ 4096) :
  Fn1 Tryz.prog 33 [vl, vr, hdV x] L (fun u L' => u = .tuple #[.int .i64 (askQ ts rs x), .int .i64 (askE ts rs x)] ∧ L = L') := by
 have sl := hl.sng
 have sr := hr.sng
 intro w0; refine Spec.enter3 Tryz.func33 rfl Tryz.ntmps33 (by decide) ?_
 have z7:DrP 7 [0,1,2,3,4,5,6,7,8,9,10,11,12,13,14,15,16,17,18,19,20,21,22,23,24,25,26,27,28,29]:=⟨⟨⟩⟩
 repeat' (first|refine Gi0 fun _=>?_|refine Gi1 ?_|refine Gi2 (fun _=>?_) fun _=>?_|refine Gi3 ?_|refine Gi4 fun _=>?_|fail)
 rename_i b5
 refine OW.call (ocAsked vl vr ts rs x _ (LS.to hl (fun c a h => TnAt.to c a h)) (LS.to hr (fun c a h => RpAt.to c a h)) hx hb) ?_
 rintro _ _ ⟨rfl, rfl⟩
 by_cases hask : askE ts rs x = 0
 ·rw [show askQ ts rs x = (quotaOf (rows (ts.zip rs)) x).1 from if_pos hask, hask]
  obtain ⟨hlen, _, hq⟩ := ask_zero hask
  obtain ⟨al, cl, hal⟩ := hl.slice
  obtain ⟨ar, cr, har⟩ := hr.slice
  subst hal har
  have hll : (ts.length : Int) ≤ 4096 := by omega
  generalize hW : ts.zip rs = W at *
  have hWl : W.length = ts.length := by rw [← hW, List.length_zip, ← hlen, Nat.min_self]
  repeat' (first|refine Gi0 fun _=>?_|refine Gi1 ?_|refine Gi2 (fun _=>?_) fun _=>?_|refine Gi3 ?_|refine Gi4 fun _=>?_|fail)
  refine CW.count ts.length (fun i ρ ds L' => ds = [] ∧ (rows (W.take i)).find? (creates x) = none ∧ (∃ X, L' = X ++ ((b5, b5C x) :: L)) ∧
    Ev ρ 1 (.slice ar rs.length cr) ∧ Ev ρ 5 (ptr b5) ∧ Ev ρ 18 (.slice al ts.length cl) ∧ Ev ρ 19 (.int .i64 (ts.length : Int)) ∧ Ev ρ 20 (.int .i64 (i : Int))) ⟨rfl, rfl, ⟨[], rfl⟩, ii, ii, ii, ii, ii⟩ ?_
  rintro i ρ ds L' hi ⟨rfl, hn, ⟨X, rfl⟩, e1, e5, e18, e19, e20⟩
  by_cases hlt : i < ts.length
  ·have hWi : i < W.length := by omega
   have hri : i < rs.length := by omega
   obtain ⟨bk, kk, capk, lk, ek, frk, hbe, hbin, hbc, hbn⟩ := hl.open (by omega)
   cases hbe
   obtain ⟨bj, kj, capj, lj, ej, frj, hbe, hbinj, hbcj, hbnj⟩ := hr.open (by omega)
   cases hbe
   obtain ⟨cc, hcut, vb, vd, rfl, hvb, hvd, htr⟩ := hbn i hlt
   obtain ⟨cc, hcutj, vo, rfl, hvo, hrr⟩ := hbnj i (by omega)
   have hW1 : W[i] = (ts[i], rs[i]) := by subst hW; simp
   have hit := quota_hit (x := x) hWi hn
   have miss := quota_miss (x := x) hWi hn
   rw [hW1] at hit miss
   simp only at hit miss
   have g0 : NthL lj (kj + i * 11) (.int .i64 rs[i].errno) := nth_cut 0 hcutj rfl
   have g1 : CutL lj (kj + i * 11 + 1) 2 [.int .i64 rs[i].hslot, .int .i64 rs[i].hgen] := cutSub hcutj 1 2 (by decide)
   clear hbn hbnj hW1
   generalize ts[i] = t at *
   generalize rs[i] = r at *
   have q1 := hvb.sng
   have q2 := hvd.sng
   have q3 := hvo.sng
   have hlti : (i : Int) < ts.length := by omega
   have hltj : (i : Int) < rs.length := by omega
   have no : (∀ B, ¬ (fine 1 ⟨t, r, i, B⟩ ∧ (r.hslot, r.hgen) = x ∧ 0 ≤ t.quota ∧ t.quota ≤ 1073741824)) → (rows (W.take (i + 1))).find? (creates x) = none := fun h => miss fun B => decide_eq_false (h B)
   by_cases c1 : t.kind = 1
   ·by_cases c2 : r.errno = 0
    ·by_cases c3 : r.hslot = x.1 ∧ r.hgen = x.2
     ·by_cases c4 : 0 ≤ t.quota
      ·by_cases c5 : t.quota ≤ 1073741824
       ·have hh := hit (fun B => decide_eq_true ⟨⟨c1, c2⟩, Prod.ext c3.1 c3.2, c4, c5⟩) hq
        rw [hh]
        repeat' (first|refine Gi0 fun _=>?_|refine Gi1 ?_|refine Gi2 (fun _=>?_) fun _=>?_|refine Gi3 ?_|refine Gi4 fun _=>?_|fail)
        exact bodyK.retD L (Res.two Tryz.results33) ⟨rfl, rfl⟩
       ·have hm := no fun B h => c5 h.2.2.2
        repeat' (first|refine Gi0 fun _=>?_|refine Gi1 ?_|refine Gi2 (fun _=>?_) fun _=>?_|refine Gi3 ?_|refine Gi4 fun _=>?_|fail)
        exact ⟨hlt, rfl, hm, ⟨_ :: X, rfl⟩, ii, ii, ii, ii, by rw [Int.natCast_add]; infer_instance⟩
      ·have hm := no fun B h => c4 h.2.2.1
       repeat' (first|refine Gi0 fun _=>?_|refine Gi1 ?_|refine Gi2 (fun _=>?_) fun _=>?_|refine Gi3 ?_|refine Gi4 fun _=>?_|fail)
       exact ⟨hlt, rfl, hm, ⟨_ :: X, rfl⟩, ii, ii, ii, ii, by rw [Int.natCast_add]; infer_instance⟩
     ·have hm := no fun B h => c3 ⟨congrArg Prod.fst h.2.1, congrArg Prod.snd h.2.1⟩
      repeat' (first|refine Gi0 fun _=>?_|refine Gi1 ?_|refine Gi2 (fun _=>?_) fun _=>?_|refine Gi3 ?_|refine Gi4 fun _=>?_|fail)
      exact ⟨hlt, rfl, hm, ⟨_ :: X, rfl⟩, ii, ii, ii, ii, by rw [Int.natCast_add]; infer_instance⟩
    ·have hm := no fun B h => c2 h.1.2
     repeat' (first|refine Gi0 fun _=>?_|refine Gi1 ?_|refine Gi2 (fun _=>?_) fun _=>?_|refine Gi3 ?_|refine Gi4 fun _=>?_|fail)
     exact ⟨hlt, rfl, hm, ⟨_ :: X, rfl⟩, ii, ii, ii, ii, by rw [Int.natCast_add]; infer_instance⟩
   ·have hm := no fun B h => c1 h.1.1
    repeat' (first|refine Gi0 fun _=>?_|refine Gi1 ?_|refine Gi2 (fun _=>?_) fun _=>?_|refine Gi3 ?_|refine Gi4 fun _=>?_|fail)
    exact ⟨hlt, rfl, hm, ⟨_ :: X, rfl⟩, ii, ii, ii, ii, by rw [Int.natCast_add]; infer_instance⟩
  ·obtain rfl : i = ts.length := by omega
   rw [List.take_of_length_le (by omega)] at hn
   exact (quota_none hn hq).elim
 ·rw [show askQ ts rs x = 0 from if_neg hask]
  rcases ask_cases ts rs x with h | h | h | h
  ·exact absurd h hask
  all_goals
   rw [h]
   repeat' (first|refine Gi0 fun _=>?_|refine Gi1 ?_|refine Gi2 (fun _=>?_) fun _=>?_|refine Gi3 ?_|refine Gi4 fun _=>?_|fail)
   exact bodyK.retD L (Res.two Tryz.results33) ⟨rfl, rfl⟩
theorem rCheck26 (vl vr : Value) (ts : List Turn) (rs : List Rp) (L : Chunk) (hl : LS 13 TnAt L vl ts) (hr : LS 11 RpAt L vr rs) :
  Fn1 Tryz.prog 128 [vl, vr] L (fun u L' => u = .int .i64 (if ts.length ≠ rs.length then 2 else if 4096 < ts.length then 3 else 0) ∧ L = L') := by
 obtain ⟨al, cl, hal⟩ := hl.slice
 obtain ⟨ar, cr, har⟩ := hr.slice
 have hl1 := hl.len
 have hl2 := hr.len
 subst hal har
 intro w0; refine Spec.enter2 Tryz.func128 rfl Tryz.ntmps128 (by decide) ?_
 by_cases h1 : ts.length = rs.length
 ·have h1' : (ts.length : Int) = rs.length := by omega
  rw [if_neg (by simp [h1])]
  by_cases h2 : 4096 < ts.length
  ·have h2' : (4096 : Int) < ts.length := by omega
   rw [if_pos h2]
   repeat' (first|refine Ga0 fun _=>?_|refine Ga1 ?_|refine Ga2 (fun _=>?_) fun _=>?_|refine Ga3 ?_|fail)
   exact bodyK.retD L (Res.one Tryz.results128) ⟨rfl, rfl⟩
  ·have h2' : ¬ (4096 : Int) < ts.length := by omega
   rw [if_neg h2]
   repeat' (first|refine Ga0 fun _=>?_|refine Ga1 ?_|refine Ga2 (fun _=>?_) fun _=>?_|refine Ga3 ?_|fail)
   exact bodyK.retD L (Res.one Tryz.results128) ⟨rfl, rfl⟩
 ·have h1' : ¬ (ts.length : Int) = rs.length := by omega
  rw [if_pos h1]
  repeat' (first|refine Ga0 fun _=>?_|refine Ga1 ?_|refine Ga2 (fun _=>?_) fun _=>?_|refine Ga3 ?_|fail)
  exact bodyK.retD L (Res.one Tryz.results128) ⟨rfl, rfl⟩
theorem quota_hit2 {W : List (Turn × Rp)} {x : Hd} {i : Nat} (hi : i < W.length) (hn : (rows (W.take i)).find? (creates x) = none) (hc : ∀ B, creates x ⟨W[i].1, W[i].2, i, B⟩ = true) (hx : 1 ≤ x.2 ∧ 0 ≤ x.1 ∧ x.1 < 4) : quotaOf (rows W) x = (W[i].1.quota, true) := by
 obtain ⟨S, hS⟩ := rows_pre (show i + 1 ≤ W.length by omega)
 have hf : (rows W).find? (creates x) = some ⟨W[i].1, W[i].2, i, bnd (W.take i)⟩ := by
  rw [hS, (rows_take hi).1, List.find?_append, List.find?_append, hn]
  simp [hc]
 unfold quotaOf
 rw [hf]
 simp [hx]
theorem quota_bad {l : List Row} {x : Hd} (hx : ¬ (1 ≤ x.2 ∧ 0 ≤ x.1 ∧ x.1 < 4)) : (quotaOf l x).2 = false := by
 unfold quotaOf
 split
 ·exact decide_eq_false hx
 ·rfl
theorem quota_none2 {l : List Row} {x : Hd} (hn : l.find? (creates x) = none) : (quotaOf l x).2 = false := by
 unfold quotaOf
 rw [hn]
def quoV (l : List Row) (x : Hd) : Int := if (quotaOf l x).2 then (quotaOf l x).1 else -1
theorem rQuota26 (vl vr : Value) (ts : List Turn) (rs : List Rp) (x : Hd) (L : Chunk) (hl : LS 13 TnAt L vl ts) (hr : LS 11 RpAt L vr rs) (hlen : ts.length = rs.length) (hb : ts.length ≤ 4096) :
  Fn1 Tryz.prog 129 [vl, vr, hdV x] L (fun u L' => u = .int .i64 (quoV (rows (ts.zip rs)) x) ∧ L = L') := by
 obtain ⟨al, cl, hal⟩ := hl.slice
 obtain ⟨ar, cr, har⟩ := hr.slice
 subst hal har
 have hll : (ts.length : Int) ≤ 4096 := by omega
 intro w0; refine Spec.enter3 Tryz.func129 rfl Tryz.ntmps129 (by decide) ?_
 have z4:DrP 4 [0,1,2,3,4,5,6,7,8,9,10,11,12,13,14,15,16,17,18,19,20,21,22,23,24,25,26,27,28,29,30,31,32,33,34,35,36,37,38,39,40,41,42,43,44,45,46,47,48]:=⟨⟨⟩⟩
 generalize hW : ts.zip rs = W at *
 have hWl : W.length = ts.length := by rw [← hW, List.length_zip, ← hlen, Nat.min_self]
 repeat' (first|refine Gi0 fun _=>?_|refine Gi1 ?_|refine Gi2 (fun _=>?_) fun _=>?_|refine Gi3 ?_|refine Gi4 fun _=>?_|fail)
 rename_i b5
 refine CW.count ts.length (fun i ρ ds L' => ds = [] ∧ ((1 ≤ x.2 ∧ 0 ≤ x.1 ∧ x.1 < 4) → (rows (W.take i)).find? (creates x) = none) ∧ (∃ X, L' = X ++ ((b5, b5C x) :: L)) ∧
   Ev ρ 0 (.slice al ts.length cl) ∧ Ev ρ 1 (.slice ar rs.length cr) ∧ Ev ρ 5 (ptr b5) ∧ Ev ρ 7 (.int .i64 (i : Int))) ⟨rfl, fun _ => rfl, ⟨[], rfl⟩, ii, ii, ii, ii⟩ ?_
 rintro i ρ ds L' hi ⟨rfl, hn, ⟨X, rfl⟩, e0, e1, e5, e7⟩
 by_cases hlt : i < ts.length
 ·have hWi : i < W.length := by omega
  have hri : i < rs.length := by omega
  obtain ⟨bk, kk, capk, lk, ek, frk, hbe, hbin, hbc, hbn⟩ := hl.open (by omega)
  cases hbe
  obtain ⟨bj, kj, capj, lj, ej, frj, hbe, hbinj, hbcj, hbnj⟩ := hr.open (by omega)
  cases hbe
  obtain ⟨cc, hcut, vb, vd, rfl, hvb, hvd, htr⟩ := hbn i hlt
  obtain ⟨cc, hcutj, vo, rfl, hvo, hrr⟩ := hbnj i (by omega)
  have hW1 : W[i] = (ts[i], rs[i]) := by subst hW; simp
  have hit := fun h => quota_hit2 (x := x) hWi (hn h)
  have miss := fun h => quota_miss (x := x) hWi (hn h)
  rw [hW1] at hit miss
  simp only at hit miss
  have g0 : NthL lj (kj + i * 11) (.int .i64 rs[i].errno) := nth_cut 0 hcutj rfl
  have g1 : CutL lj (kj + i * 11 + 1) 2 [.int .i64 rs[i].hslot, .int .i64 rs[i].hgen] := cutSub hcutj 1 2 (by decide)
  have g2 : NthL lk (kk + i * 13) (.int .i64 ts[i].kind) := nth_cut 0 hcut rfl
  have g3 : NthL lk (kk + i * 13 + 2) (.int .i64 ts[i].quota) := nth_cut 2 hcut rfl
  clear hbn hbnj hW1
  generalize ts[i] = t at *
  generalize rs[i] = r at *
  have q1 := hvb.sng
  have q2 := hvd.sng
  have q3 := hvo.sng
  have hlti : (i : Int) < ts.length := by omega
  have hltj : (i : Int) < rs.length := by omega
  have no : (∀ B, ¬ (fine 1 ⟨t, r, i, B⟩ ∧ (r.hslot, r.hgen) = x ∧ 0 ≤ t.quota ∧ t.quota ≤ 1073741824)) → ((1 ≤ x.2 ∧ 0 ≤ x.1 ∧ x.1 < 4) → (rows (W.take (i + 1))).find? (creates x) = none) := fun h h2 => miss h2 fun B => decide_eq_false (h B)
  by_cases c1 : t.kind = 1
  ·by_cases c2 : r.errno = 0
   ·by_cases c3 : r.hslot = x.1 ∧ r.hgen = x.2
    ·by_cases c6 : 1 ≤ x.2
     ·repeat' (first|refine Gi0 fun _=>?_|refine Gi1 ?_|refine Gi2 (fun _=>?_) fun _=>?_|refine Gi3 ?_|refine Gi4 fun _=>?_|fail)
      refine RW.call (dkSlot x.1 _) ?_
      rintro _ _ ⟨rfl, rfl⟩
      refine pinAll ?_
      by_cases c7 : 0 ≤ x.1 ∧ x.1 < 4
      ·rw [decide_eq_true c7]
       by_cases c4 : 0 ≤ t.quota
       ·by_cases c5 : t.quota ≤ 1073741824
        ·have hh := hit ⟨c6, c7⟩ (fun B => decide_eq_true ⟨⟨c1, c2⟩, Prod.ext c3.1 c3.2, c4, c5⟩) ⟨c6, c7⟩
         rw [show quoV (rows W) x = t.quota by unfold quoV; rw [hh]; rfl]
         repeat' (first|refine Gi0 fun _=>?_|refine Gi1 ?_|refine Gi2 (fun _=>?_) fun _=>?_|refine Gi3 ?_|refine Gi4 fun _=>?_|fail)
         exact bodyK.retD L (Res.one Tryz.results129) ⟨rfl, rfl⟩
        ·have hm := no fun B h => c5 h.2.2.2
         repeat' (first|refine Gi0 fun _=>?_|refine Gi1 ?_|refine Gi2 (fun _=>?_) fun _=>?_|refine Gi3 ?_|refine Gi4 fun _=>?_|fail)
         exact ⟨hlt, rfl, hm, ⟨X, rfl⟩, ii, ii, ii, by rw [Int.natCast_add]; infer_instance⟩
       ·have hm := no fun B h => c4 h.2.2.1
        repeat' (first|refine Gi0 fun _=>?_|refine Gi1 ?_|refine Gi2 (fun _=>?_) fun _=>?_|refine Gi3 ?_|refine Gi4 fun _=>?_|fail)
        exact ⟨hlt, rfl, hm, ⟨X, rfl⟩, ii, ii, ii, by rw [Int.natCast_add]; infer_instance⟩
      ·rw [decide_eq_false c7]
       have hm : (1 ≤ x.2 ∧ 0 ≤ x.1 ∧ x.1 < 4) → (rows (W.take (i + 1))).find? (creates x) = none := fun h => absurd h.2 c7
       repeat' (first|refine Gi0 fun _=>?_|refine Gi1 ?_|refine Gi2 (fun _=>?_) fun _=>?_|refine Gi3 ?_|refine Gi4 fun _=>?_|fail)
       exact ⟨hlt, rfl, hm, ⟨X, rfl⟩, ii, ii, ii, by rw [Int.natCast_add]; infer_instance⟩
     ·have hm : (1 ≤ x.2 ∧ 0 ≤ x.1 ∧ x.1 < 4) → (rows (W.take (i + 1))).find? (creates x) = none := fun h => absurd h.1 c6
      repeat' (first|refine Gi0 fun _=>?_|refine Gi1 ?_|refine Gi2 (fun _=>?_) fun _=>?_|refine Gi3 ?_|refine Gi4 fun _=>?_|fail)
      exact ⟨hlt, rfl, hm, ⟨X, rfl⟩, ii, ii, ii, by rw [Int.natCast_add]; infer_instance⟩
    ·have hm := no fun B h => c3 ⟨congrArg Prod.fst h.2.1, congrArg Prod.snd h.2.1⟩
     repeat' (first|refine Gi0 fun _=>?_|refine Gi1 ?_|refine Gi2 (fun _=>?_) fun _=>?_|refine Gi3 ?_|refine Gi4 fun _=>?_|fail)
     exact ⟨hlt, rfl, hm, ⟨X, rfl⟩, ii, ii, ii, by rw [Int.natCast_add]; infer_instance⟩
   ·have hm := no fun B h => c2 h.1.2
    repeat' (first|refine Gi0 fun _=>?_|refine Gi1 ?_|refine Gi2 (fun _=>?_) fun _=>?_|refine Gi3 ?_|refine Gi4 fun _=>?_|fail)
    exact ⟨hlt, rfl, hm, ⟨X, rfl⟩, ii, ii, ii, by rw [Int.natCast_add]; infer_instance⟩
  ·have hm := no fun B h => c1 h.1.1
   repeat' (first|refine Gi0 fun _=>?_|refine Gi1 ?_|refine Gi2 (fun _=>?_) fun _=>?_|refine Gi3 ?_|refine Gi4 fun _=>?_|fail)
   exact ⟨hlt, rfl, hm, ⟨X, rfl⟩, ii, ii, ii, by rw [Int.natCast_add]; infer_instance⟩
 ·obtain rfl : i = ts.length := by omega
  rw [List.take_of_length_le (by omega)] at hn
  have hq : (quotaOf (rows W) x).2 = false := by
   by_cases c : 1 ≤ x.2 ∧ 0 ≤ x.1 ∧ x.1 < 4
   ·exact quota_none2 (hn c)
   ·exact quota_bad c
  rw [show quoV (rows W) x = -1 by unfold quoV; rw [hq]; rfl]
  repeat' (first|refine Gi0 fun _=>?_|refine Gi1 ?_|refine Gi2 (fun _=>?_) fun _=>?_|refine Gi3 ?_|refine Gi4 fun _=>?_|fail)
  exact bodyK.retD L (Res.one Tryz.results129) ⟨rfl, rfl⟩
end Go.Proofs.YtmnhooepaemlcaaGreat
