/- OrderCalls: true for every input; arguments as before. Part 23. Conditions: none. -/
import Derived.Test.YtmnhooepaemlcaaGreatOC2
import Derived.Test.YtmnhooepaemlcaaGreatOC3
import Derived.Test.YtmnhooepaemlcaaGreatOC16
import Derived.Test.YtmnhooepaemlcaaGreatOC22
set_option linter.all false
namespace Go.Proofs.YtmnhooepaemlcaaGreat
open Go Go.Pw Go.Pw.Sc Go.Pw.Md Go.Pw.Jd Go.Pw.Or
set_option maxRecDepth 100000
set_option maxHeartbeats 4000000
set_option synthInstance.maxHeartbeats 400000
set_option synthInstance.maxSize 2000
attribute [local irreducible] CW OW RW thenK blockK
attribute [local irreducible] scopeK loopK TRW ATW
theorem ocIs (bb c : Nat) (es : List MapEntry) (b : PBnd) (n : Int) (x : Hd) (L : Chunk) [hin : InC L bb (.map es.toArray c)] (hk : KV .i64 es c) (hb : HB es b) :
  Fn1 Tryz.prog 74 [.map (some bb), .int .i64 n, hdV x] L (fun u L' => u = .bool (decide (isThread n ∧ b n = some x)) ∧ L = L') := by
 have hn := hb n
 intro w0; refine Spec.enter3 Tryz.func74 rfl Tryz.ntmps74 (by decide) ?_
 repeat' (first|refine Ga0 fun _=>?_|refine Ga1 ?_|refine Ga2 (fun _=>?_) fun _=>?_|refine Ga3 ?_|refine Ga4 fun _=>?_|fail)
 refine OW.lookOk (es := es) (c := c) (m := bb) hk.keys (fun y hy => ?_) (fun hy => ?_)
 ·rw [hy] at hn
  obtain ⟨z, hz, hzv⟩ : ∃ z, b n = some z ∧ y = hdV z := by
   cases hbn : b n with
   | none => rw [hbn] at hn; cases hn
   | some z => rw [hbn] at hn; exact ⟨z, rfl, by simpa using hn⟩
  subst hzv
  rw [hz]
  by_cases hx : z.1 = x.1 ∧ z.2 = x.2
  ·have he : z = x := Prod.ext hx.1 hx.2
   subst he
   by_cases h1 : 0 ≤ n
   ·by_cases h2 : n < 4
    ·rw [decide_eq_true (show isThread n ∧ some z = some z from ⟨⟨h1, h2⟩, rfl⟩)]
     repeat' (first|refine Ga0 fun _=>?_|refine Ga1 ?_|refine Ga2 (fun _=>?_) fun _=>?_|refine Ga3 ?_|refine Ga4 fun _=>?_|fail)
     exact bodyK.retD L (Res.one Tryz.results74) ⟨rfl, rfl⟩
    ·rw [decide_eq_false (fun h => h2 h.1.2)]
     repeat' (first|refine Ga0 fun _=>?_|refine Ga1 ?_|refine Ga2 (fun _=>?_) fun _=>?_|refine Ga3 ?_|refine Ga4 fun _=>?_|fail)
     exact bodyK.retD L (Res.one Tryz.results74) ⟨rfl, rfl⟩
   ·rw [decide_eq_false (fun h => h1 h.1.1)]
    repeat' (first|refine Ga0 fun _=>?_|refine Ga1 ?_|refine Ga2 (fun _=>?_) fun _=>?_|refine Ga3 ?_|refine Ga4 fun _=>?_|fail)
    exact bodyK.retD L (Res.one Tryz.results74) ⟨rfl, rfl⟩
  ·rw [decide_eq_false (fun h => hx (by have := Option.some.inj h.2; rw [this]; exact ⟨rfl, rfl⟩))]
   repeat' (first|refine Ga0 fun _=>?_|refine Ga1 ?_|refine Ga2 (fun _=>?_) fun _=>?_|refine Ga3 ?_|refine Ga4 fun _=>?_|fail)
   exact bodyK.retD L (Res.one Tryz.results74) ⟨rfl, rfl⟩
 ·rw [hy] at hn
  have hbn : b n = none := by
   cases hbn : b n with
   | none => rfl
   | some z => rw [hbn] at hn; cases hn
  rw [hbn, decide_eq_false (fun h => by cases h.2)]
  repeat' (first|refine Ga0 fun _=>?_|refine Ga1 ?_|refine Ga2 (fun _=>?_) fun _=>?_|refine Ga3 ?_|refine Ga4 fun _=>?_|fail)
  exact bodyK.retD L (Res.one Tryz.results74) ⟨rfl, rfl⟩
theorem hb_filter {es : List MapEntry} {c : Nat} {b : PBnd} (hk : KV .i64 es c) (h : HB es b) (p : Int → Bool) : HB (es.filter fun e => p (kI e.key)) (fun n => if p n then b n else none) := fun n => by
 show _ = (if p n then b n else none).map hdV
 have hf := hk.filter fun e => p (kI e.key)
 cases hg : findI (es.filter fun e => p (kI e.key)) n with
 | some v =>
  obtain ⟨A, e, B, e1, e2, e3⟩ := hf.some_of hg
  have hm : e ∈ es.filter fun e => p (kI e.key) := by rw [e1]; simp
  obtain ⟨h1, h2⟩ := List.mem_filter.1 hm
  have hek : kI e.key = n := by rw [e2]; rfl
  have h3 := hk.find_of h1
  rw [hek] at h2 h3
  have h4 := h n
  rw [h3, e3] at h4
  rw [if_pos h2, ← h4]
 | none =>
  by_cases hp : p n = true
  ·rw [if_pos hp]
   cases hbn : b n with
   | none => rfl
   | some y =>
    have h4 := h n
    rw [hbn] at h4
    obtain ⟨A, e, B, e1, e2, e3⟩ := hk.some_of h4
    have hek : kI e.key = n := by rw [e2]; rfl
    exact absurd hek (hf.none_of hg e (List.mem_filter.2 ⟨by rw [e1]; simp, by rw [hek]; exact hp⟩))
  ·rw [if_neg hp]; rfl
theorem ocTurn (t : Turn) (vb vd : Value) (bb c : Nat) (es : List MapEntry) (b : PBnd) (C : Chunk → Chunk) (L : Chunk) [s1 : Sng vb] [s2 : Sng vd] [hat : At L [(bb, .map es.toArray c)] C] (hk : KV .i64 es c) (hb : HB es b) :
  Fn1 Tryz.prog 75 [.map (some bb), .agg (tcells t vb vd).toArray] L (fun _ L' => ∃ es' c', L' = C [(bb, .map (List.toArray es') c')] ∧ KV .i64 es' c' ∧ HB es' (pbind b t)) := by
 obtain ⟨A, B, rfl, hC⟩ := hat.out
 obtain rfl : C = fun X => A ++ X ++ B := funext hC
 intro w0; refine Spec.enter2 Tryz.func75 rfl Tryz.ntmps75 (by decide) ?_
 by_cases h2 : t.kind = 2
 ·have hpb : pbind b t = fun n => if b n = some (t.hslot, t.hgen) then none else b n := by unfold pbind; rw [if_pos h2]
  rw [hpb]
  repeat' (first|refine Ga0 fun _=>?_|refine Ga1 ?_|refine Ga2 (fun _=>?_) fun _=>?_|refine Ga3 ?_|refine Ga4 fun _=>?_|fail)
  rename_i b3 _ ri
  refine CW.loop (fun k ρ ds L' => ds = [] ∧ (∃ X seen, L' = X ++ ((ri, .mapIter (some bb) c seen c) :: (b3, .cells (tcells t vb vd).toArray 108 (0, 0)) :: (A ++ [(bb, .map (List.toArray (cur es (fun e => decide (b (kI e.key) = some (t.hslot, t.hgen))) seen)) c)] ++ B)) ∧ k = unseen es seen) ∧
   Ev ρ 0 (.map (some bb)) ∧ Ev ρ 3 (.pointer (some ⟨b3, 0, none⟩)) ∧ Ev ρ 11 (.pointer (some ⟨ri, 0, none⟩))) (unseen es #[])
   ⟨rfl, ⟨[], #[], by rw [cur_nil]; rfl, rfl⟩, ii, ii, ii⟩ ?_
  rintro k ρ ds L' ⟨rfl, ⟨X, seen, rfl, rfl⟩, e0, e3, e11⟩
  have hkc : KV .i64 (cur es (fun e => decide (b (kI e.key) = some (t.hslot, t.hgen))) seen) c := hk.filter _
  repeat' (first|refine Ga0 fun _=>?_|refine Ga1 ?_|refine Ga2 (fun _=>?_) fun _=>?_|refine Ga3 ?_|refine Ga4 fun _=>?_|fail)
  refine OW.nextZ (r := ri) (m := bb) (since := c) (c0 := c) (clock := c) (seen := seen) (es := cur es (fun e => decide (b (kI e.key) = some (t.hslot, t.hgen))) seen) (zs := (cur es (fun e => decide (b (kI e.key) = some (t.hslot, t.hgen))) seen).map fun e => (e, ())) hkc (by rw [List.map_map]; exact (List.map_id _).symm) (todo_left _ _) (fun e he => hkc.old e he) (Nat.le_refl _) (fun h => ?_) (fun A' z B' htz hz' hl' => ?_)
  ·rw [cur_end h]
   have hf := hb_filter hk hb (fun n => !decide (b n = some (t.hslot, t.hgen)))
   have he : (fun n => if (!decide (b n = some (t.hslot, t.hgen))) = true then b n else none) = (fun n => if b n = some (t.hslot, t.hgen) then none else b n) := by
    funext n
    by_cases h : b n = some (t.hslot, t.hgen) <;> simp [h]
   rw [he] at hf
   repeat' (first|refine Ga0 fun _=>?_|refine Ga1 ?_|refine Ga2 (fun _=>?_) fun _=>?_|refine Ga3 ?_|refine Ga4 fun _=>?_|fail)
   exact bodyK.nrmD (A ++ [(bb, .map (List.toArray (es.filter fun e => !decide (b (kI e.key) = some (t.hslot, t.hgen)))) c)] ++ B) (Res.zero Tryz.results75) ⟨_, c, rfl, hk.filter _, hf⟩
  ·obtain ⟨z1, ⟨⟩⟩ := z
   obtain ⟨hzc, hns⟩ := todo_mem htz
   simp only at hzc hns
   have hze := cur_sub hzc
   have hlt := unseen_lt hze hns
   have hst := cur_step hk (fun e => decide (b (kI e.key) = some (t.hslot, t.hgen))) hze hns
   obtain ⟨kz, hkz⟩ := hk.keys z1 hze
   have hkI : kI z1.key = kz := by rw [hkz]; rfl
   have hfz := hk.find_of hze
   have hbz := hb kz
   rw [hkI] at hst hfz
   rw [hfz] at hbz
   obtain ⟨y, hy, hyv⟩ : ∃ y, b kz = some y ∧ z1.val = hdV y := by
    cases hbk : b kz with
    | none => rw [hbk] at hbz; cases hbz
    | some y => rw [hbk] at hbz; exact ⟨y, rfl, by simpa using hbz⟩
   rw [hy] at hst
   repeat' (first|refine Ga0 fun _=>?_|refine Ga1 ?_|refine Ga2 (fun _=>?_) fun _=>?_|refine Ga3 ?_|refine Ga4 fun _=>?_|fail)
   refine OW.entryE (r := ri) (m := bb) (since := c) (c := c) (seen := seen) (e := z1) hkc hzc ?_
   rw [hkz, hyv]
   by_cases heq : y.1 = t.hslot ∧ y.2 = t.hgen
   ·have hyh : y = (t.hslot, t.hgen) := Prod.ext heq.1 heq.2
    rw [hyh, decide_eq_true rfl, if_pos rfl] at hst
    repeat' (first|refine Ga0 fun _=>?_|refine Ga1 ?_|refine Ga2 (fun _=>?_) fun _=>?_|refine Ga3 ?_|refine Ga4 fun _=>?_|fail)
    refine OW.mapDel (m := bb) (k := .i64) (j := kz) (c := c) (es := cur es (fun e => decide (b (kI e.key) = some (t.hslot, t.hgen))) seen) hkc ?_
    rw [updO_none, ← hst]
    repeat' (first|refine Ga0 fun _=>?_|refine Ga1 ?_|refine Ga2 (fun _=>?_) fun _=>?_|refine Ga3 ?_|refine Ga4 fun _=>?_|fail)
    exact ⟨_, hlt, rfl, ⟨_ :: X, _, rfl, rfl⟩, ii, ii, ii⟩
   ·have hyh : ¬ some y = some (t.hslot, t.hgen) := fun h => heq (by have := Option.some.inj h; rw [this]; exact ⟨rfl, rfl⟩)
    rw [decide_eq_false hyh, if_neg (by decide)] at hst
    rw [← hst]
    repeat' (first|refine Ga0 fun _=>?_|refine Ga1 ?_|refine Ga2 (fun _=>?_) fun _=>?_|refine Ga3 ?_|refine Ga4 fun _=>?_|fail)
    exact ⟨_, hlt, rfl, ⟨_ :: X, _, rfl, rfl⟩, ii, ii, ii⟩
 ·by_cases h3 : t.kind = 3
  ·have hpb : pbind b t = fun n => if n = t.thread then some (t.hslot, t.hgen) else b n := by unfold pbind; rw [if_neg h2, if_pos h3]
   rw [hpb]
   repeat' (first|refine Ga0 fun _=>?_|refine Ga1 ?_|refine Ga2 (fun _=>?_) fun _=>?_|refine Ga3 ?_|refine Ga4 fun _=>?_|fail)
   refine OW.mapPut (m := bb) (k := .i64) (j := t.thread) (u := hdV (t.hslot, t.hgen)) (c := c) (es := es) hk ?_
   repeat' (first|refine Ga0 fun _=>?_|refine Ga1 ?_|refine Ga2 (fun _=>?_) fun _=>?_|refine Ga3 ?_|refine Ga4 fun _=>?_|fail)
   exact bodyK.nrmD (A ++ [(bb, .map (putE .i64 t.thread (hdV (t.hslot, t.hgen)) es c).1.toArray (putE .i64 t.thread (hdV (t.hslot, t.hgen)) es c).2)] ++ B) (Res.zero Tryz.results75) ⟨_, _, rfl, hk.put, hb.put hk _ _⟩
  ·by_cases h4 : t.kind = 4
   ·have hpb : pbind b t = fun n => if n = t.thread then none else b n := by unfold pbind; rw [if_neg h2, if_neg h3, if_pos h4]
    rw [hpb]
    repeat' (first|refine Ga0 fun _=>?_|refine Ga1 ?_|refine Ga2 (fun _=>?_) fun _=>?_|refine Ga3 ?_|refine Ga4 fun _=>?_|fail)
    refine OW.mapDel (m := bb) (k := .i64) (j := t.thread) (c := c) (es := es) hk ?_
    rw [updO_none]
    repeat' (first|refine Ga0 fun _=>?_|refine Ga1 ?_|refine Ga2 (fun _=>?_) fun _=>?_|refine Ga3 ?_|refine Ga4 fun _=>?_|fail)
    exact bodyK.nrmD (A ++ [(bb, .map (delE t.thread es).toArray c)] ++ B) (Res.zero Tryz.results75) ⟨_, _, rfl, hk.del, hb.del hk _⟩
   ·have hpb : pbind b t = b := by unfold pbind; rw [if_neg h2, if_neg h3, if_neg h4]
    rw [hpb]
    repeat' (first|refine Ga0 fun _=>?_|refine Ga1 ?_|refine Ga2 (fun _=>?_) fun _=>?_|refine Ga3 ?_|refine Ga4 fun _=>?_|fail)
    exact bodyK.nrmD (A ++ [(bb, .map es.toArray c)] ++ B) (Res.zero Tryz.results75) ⟨_, _, rfl, hk, hb⟩
end Go.Proofs.YtmnhooepaemlcaaGreat
