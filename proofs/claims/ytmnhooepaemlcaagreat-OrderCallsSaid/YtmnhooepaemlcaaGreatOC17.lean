/- OrderCalls: true for every input; arguments as before. Part 17. Conditions: none. -/
import Derived.Test.YtmnhooepaemlcaaGreatOC2
import Derived.Test.YtmnhooepaemlcaaGreatOC3
import Derived.Test.YtmnhooepaemlcaaGreatOC4
set_option linter.all false
namespace Go.Proofs.YtmnhooepaemlcaaGreat
open Go Go.Pw Go.Pw.Sc Go.Pw.Md Go.Pw.Jd
set_option maxRecDepth 100000
set_option maxHeartbeats 4000000
set_option synthInstance.maxHeartbeats 400000
set_option synthInstance.maxSize 2000
attribute [local irreducible] CW OW RW thenK blockK
attribute [local irreducible] scopeK loopK TRW ATW
instance eqHandleJ {a b c d : Int} : EqA Tryz.prog 32 [.int .i64 a, .int .i64 b] [.int .i64 c, .int .i64 d] (decide (a = c ∧ b = d)) :=
 ⟨by kernel_rfl, fun w => eq_two Tryz.underlying32 ⟨rfl, rfl, by decide⟩ ⟨rfl, rfl, by decide⟩ (by kernel_rfl) w a b c d⟩
theorem jThread (n : Int) (L : Chunk) : Fn1 Tryz.prog 99 [.int .i64 n] L (fun u L' => u = .bool (decide (isThread n)) ∧ L = L') := by
 intro w0; refine Spec.enter1 Tryz.func99 rfl Tryz.ntmps99 (by decide) ?_
 unfold isThread
 repeat' (first|refine Ga0 fun _=>?_|refine Ga1 ?_|refine Ga2 (fun _=>?_) fun _=>?_|refine Ga3 ?_|fail)
 all_goals exact bodyK.retD L (Res.one Tryz.results99) ⟨(congrArg Value.bool (by first | exact (decide_eq_true (by omega)).symm | exact (decide_eq_false (by omega)).symm)), rfl⟩
theorem jFine (t : Turn) (r : Rp) (vb vd vo : Value) (at_ : Int) (bp : Nat) (b : Bnd) (k : Int) (L : Chunk) [s1 : Sng vb] [s2 : Sng vd] [s3 : Sng vo] (w : Row) (hw : w.t = t ∧ w.r = r) : Fn1 Tryz.prog 55 [.agg (wcells t r vb vd vo at_ bp).toArray, .int .i64 k] L (fun u L' => u = .bool (decide (fine k w)) ∧ L = L') := by
 obtain ⟨rfl, rfl⟩ := hw
 intro w0; refine Spec.enter2 Tryz.func55 rfl Tryz.ntmps55 (by decide) ?_
 by_cases h1 : w.t.kind = k
 ·by_cases h2 : w.r.errno = 0
  ·rw [decide_eq_true (show fine k w from ⟨h1, h2⟩)]
   repeat' (first|refine Ga0 fun _=>?_|refine Ga1 ?_|refine Ga2 (fun _=>?_) fun _=>?_|refine Ga3 ?_|refine Ga4 fun _=>?_|fail)
   exact bodyK.retD L (Res.one Tryz.results55) ⟨rfl, rfl⟩
  ·rw [decide_eq_false (show ¬ fine k w from fun h => h2 h.2)]
   repeat' (first|refine Ga0 fun _=>?_|refine Ga1 ?_|refine Ga2 (fun _=>?_) fun _=>?_|refine Ga3 ?_|refine Ga4 fun _=>?_|fail)
   exact bodyK.retD L (Res.one Tryz.results55) ⟨rfl, rfl⟩
 ·rw [decide_eq_false (show ¬ fine k w from fun h => h1 h.1)]
  repeat' (first|refine Ga0 fun _=>?_|refine Ga1 ?_|refine Ga2 (fun _=>?_) fun _=>?_|refine Ga3 ?_|refine Ga4 fun _=>?_|fail)
  exact bodyK.retD L (Res.one Tryz.results55) ⟨rfl, rfl⟩
theorem jWhose (w : Row) (vb vd vo : Value) (at_ : Int) (bp : Nat) (n : Int) (x : Hd) (L : Chunk) [s1 : Sng vb] [s2 : Sng vd] [s3 : Sng vo] (hb : Bm L bp w.b) : Fn1 Tryz.prog 103 [.agg (wcells w.t w.r vb vd vo at_ bp).toArray, .int .i64 n, hdV x] L (fun u L' => u = .bool (decide (whose w n x)) ∧ L = L') := by
 obtain ⟨es, c, h1, h2, h3⟩ := hb
 intro w0; refine Spec.enter3 Tryz.func103 rfl Tryz.ntmps103 (by decide) ?_
 repeat' (first|refine Ga0 fun _=>?_|refine Ga1 ?_|refine Ga2 (fun _=>?_) fun _=>?_|refine Ga3 ?_|refine Ga4 fun _=>?_|fail)
 have hn := h3 n
 have hlk : ∀ y : Hd, (w.b n).getD (0, 0) = y → decide (whose w n x) = decide (y.1 = x.1 ∧ y.2 = x.2) := fun y hy => by
  congr 1
  rw [eq_iff_iff]
  unfold whose
  rw [hy]
  exact ⟨fun h => by rw [h]; exact ⟨rfl, rfl⟩, fun h => Prod.ext h.1 h.2⟩
 cases hw : w.b n with
 | none =>
  rw [hw] at hn hlk
  rw [hlk (0, 0) rfl]
  refine OW.lookD (m := bp) (c := c) (es := es) (v := hdV (0, 0)) h2.keys (by rw [hn]; rfl) ?_
  generalize hq : decide ((0, 0).1 = x.1 ∧ (0, 0).2 = x.2) = q
  have eA : EqA Tryz.prog 32 [.int .i64 ((0, 0) : Hd).1, .int .i64 ((0, 0) : Hd).2] [.int .i64 x.1, .int .i64 x.2] q := hq ▸ eqHandleJ
  repeat' (first|refine Ga0 fun _=>?_|refine Ga1 ?_|refine Ga2 (fun _=>?_) fun _=>?_|refine Ga3 ?_|refine Ga4 fun _=>?_|fail)
  exact bodyK.retD L (Res.one Tryz.results103) ⟨rfl, rfl⟩
 | some y =>
  rw [hw] at hn hlk
  rw [hlk y rfl]
  refine OW.lookD (m := bp) (c := c) (es := es) (v := hdV y) h2.keys (by rw [hn]; rfl) ?_
  generalize hq : decide (y.1 = x.1 ∧ y.2 = x.2) = q
  have eA : EqA Tryz.prog 32 [.int .i64 y.1, .int .i64 y.2] [.int .i64 x.1, .int .i64 x.2] q := hq ▸ eqHandleJ
  repeat' (first|refine Ga0 fun _=>?_|refine Ga1 ?_|refine Ga2 (fun _=>?_) fun _=>?_|refine Ga3 ?_|refine Ga4 fun _=>?_|fail)
  exact bodyK.retD L (Res.one Tryz.results103) ⟨rfl, rfl⟩
theorem jBind3 (t : Turn) (r : Rp) (vb vd vo : Value) (at_ : Int) (bp bn : Nat) (b : Bnd) (C : Chunk → Chunk) (es : List MapEntry) (c : Nat) (L : Chunk) [s1 : Sng vb] [s2 : Sng vd] [s3 : Sng vo] [hat : At L [(bn, .map es.toArray c)] C] (hk : KV .i64 es c) (hb : HB es b) :
  Fn1 Tryz.prog 141 [.agg (wcells t r vb vd vo at_ bp).toArray, .map (some bn)] L (fun _ L' => ∃ es' c', L' = C [(bn, .map (List.toArray es') c')] ∧ KV .i64 es' c' ∧ HB es' (fun n => if n = t.thread then none else b n)) := by
 obtain ⟨A, B, rfl, hC⟩ := hat.out
 obtain rfl : C = fun X => A ++ X ++ B := funext hC
 intro w0; refine Spec.enter2 Tryz.func141 rfl Tryz.ntmps141 (by decide) ?_
 repeat' (first|refine Ga0 fun _=>?_|refine Ga1 ?_|refine Ga2 (fun _=>?_) fun _=>?_|refine Ga3 ?_|refine Ga4 fun _=>?_|fail)
 refine OW.mapDel (m := bn) (k := .i64) (j := t.thread) (c := c) (es := es) hk ?_
 rw [updO_none]
 repeat' (first|refine Ga0 fun _=>?_|refine Ga1 ?_|refine Ga2 (fun _=>?_) fun _=>?_|refine Ga3 ?_|refine Ga4 fun _=>?_|fail)
 exact bodyK.nrmD (A ++ [(bn, .map (delE t.thread es).toArray c)] ++ B) (Res.zero Tryz.results141) ⟨_, _, rfl, hk.del, hb.del hk _⟩


theorem jBind2 (t : Turn) (r : Rp) (vb vd vo : Value) (at_ : Int) (bp bn : Nat) (b : Bnd) (C : Chunk → Chunk) (es : List MapEntry) (c : Nat) (L : Chunk) [s1 : Sng vb] [s2 : Sng vd] [s3 : Sng vo] [hat : At L [(bn, .map es.toArray c)] C] (hk : KV .i64 es c) (hb : HB es b) :
    Fn1 Tryz.prog 140 [.agg (wcells t r vb vd vo at_ bp).toArray, .map (some bn)] L (fun _ L' => ∃ es' c', L' = C [(bn, .map (List.toArray es') c')] ∧ KV .i64 es' c' ∧ HB es' (fun n => if n = t.thread then (if (t.hslot, t.hgen) = (0, 0) then none else some (t.hslot, t.hgen)) else b n)) := by
  obtain ⟨A, B, rfl, hC⟩ := hat.out
  obtain rfl : C = fun X => A ++ X ++ B := funext hC
  intro w0; refine Spec.enter2 Tryz.func140 rfl Tryz.ntmps140 (by decide) ?_
  repeat' (first|refine Ga0 fun _=>?_|refine Ga1 ?_|refine Ga2 (fun _=>?_) fun _=>?_|refine Ga3 ?_|refine Ga4 fun _=>?_|fail)
  refine OW.mapPut (m := bn) (k := .i64) (j := t.thread) (u := hdV (t.hslot, t.hgen)) (c := c) (es := es) hk ?_
  have hk1 : KV .i64 (putE .i64 t.thread (hdV (t.hslot, t.hgen)) es c).1 (putE .i64 t.thread (hdV (t.hslot, t.hgen)) es c).2 := hk.put
  have hb1 := hb.put hk t.thread (t.hslot, t.hgen)
  generalize (putE .i64 t.thread (hdV (t.hslot, t.hgen)) es c).1 = es1 at *
  generalize (putE .i64 t.thread (hdV (t.hslot, t.hgen)) es c).2 = c1 at *
  by_cases hz : t.hslot = 0 ∧ t.hgen = 0
  · have hz' : (t.hslot, t.hgen) = (0, 0) := Prod.ext hz.1 hz.2
    repeat' (first|refine Ga0 fun _=>?_|refine Ga1 ?_|refine Ga2 (fun _=>?_) fun _=>?_|refine Ga3 ?_|refine Ga4 fun _=>?_|fail)
    refine OW.mapDel (m := bn) (k := .i64) (j := t.thread) (c := c1) (es := es1) hk1 ?_
    rw [updO_none]
    repeat' (first|refine Ga0 fun _=>?_|refine Ga1 ?_|refine Ga2 (fun _=>?_) fun _=>?_|refine Ga3 ?_|refine Ga4 fun _=>?_|fail)
    refine bodyK.nrmD (A ++ [(bn, .map (delE t.thread es1).toArray c1)] ++ B) (Res.zero Tryz.results140) ⟨_, _, rfl, hk1.del, ?_⟩
    have := hb1.del hk1 t.thread
    intro k
    rw [this k]
    by_cases hkt : k = t.thread
    · simp [hkt, hz']
    · simp [hkt]
  · have hz' : ¬ (t.hslot, t.hgen) = (0, 0) := fun h => hz ⟨congrArg Prod.fst h, congrArg Prod.snd h⟩
    repeat' (first|refine Ga0 fun _=>?_|refine Ga1 ?_|refine Ga2 (fun _=>?_) fun _=>?_|refine Ga3 ?_|refine Ga4 fun _=>?_|fail)
    refine bodyK.nrmD (A ++ [(bn, .map es1.toArray c1)] ++ B) (Res.zero Tryz.results140) ⟨_, _, rfl, hk1, ?_⟩
    intro k
    rw [hb1 k]
    by_cases hkt : k = t.thread
    · simp [hkt, hz']
    · simp [hkt]

theorem inj_of {α β : Type} {f : α → β} : ∀ {l : List α}, (l.map f).Nodup → ∀ x ∈ l, ∀ y ∈ l, f x = f y → x = y
  | [], _, _, hx, _, _, _ => by cases hx
  | a :: l, h, x, hx, y, hy, e => by
    rw [List.map_cons, List.nodup_cons] at h
    rcases List.mem_cons.1 hx with rfl | hx1 <;> rcases List.mem_cons.1 hy with rfl | hy1
    · rfl
    · exact absurd (List.mem_map.2 ⟨y, hy1, e.symm⟩) h.1
    · exact absurd (List.mem_map.2 ⟨x, hx1, e⟩) h.1
    · exact inj_of h.2 x hx1 y hy1 e
theorem del_left {es : List MapEntry} {c : Nat} (hk : KV .i64 es c) {e : MapEntry} (he : e ∈ es) {seen : Array Nat} (hs : seen.contains e.born = true) : (delE (kI e.key) es).filter (fun x => !seen.contains x.born) = es.filter (fun x => !seen.contains x.born) := by
  unfold delE
  rw [List.filter_filter]
  refine List.filter_congr fun x hx => ?_
  by_cases hxe : kI x.key = kI e.key
  · have h1 := hk.find_of hx
    have : x = e := by
      have hn := hk.apart
      exact inj_of hn x hx e he hxe
    subst this
    have hs' : x.born ∈ seen := by simpa using hs
    simp [hs']
  · simp [hxe]
theorem leftU {es : List MapEntry} {seen : Array Nat} : LeftZ (es.map fun e => (e, ())) seen ((es.filter fun x => !seen.contains x.born).map fun e => (e, ())) := by
  unfold LeftZ
  rw [List.filter_map]
  rfl
theorem jBind1 (t : Turn) (r : Rp) (vb vd vo : Value) (at_ : Int) (bp bn : Nat) (b : Bnd) (C : Chunk → Chunk) (es : List MapEntry) (c : Nat) (L : Chunk) [s1 : Sng vb] [s2 : Sng vd] [s3 : Sng vo] [hat : At L [(bn, .map es.toArray c)] C] (hk : KV .i64 es c) (hb : HB es b) :
    Fn1 Tryz.prog 139 [.agg (wcells t r vb vd vo at_ bp).toArray, .map (some bn)] L (fun _ L' => ∃ es' c', L' = C [(bn, .map (List.toArray es') c')] ∧ KV .i64 es' c' ∧ HB es' (fun n => if b n = some (t.hslot, t.hgen) then none else b n)) := by
  obtain ⟨A, B, rfl, hC⟩ := hat.out
  obtain rfl : C = fun X => A ++ X ++ B := funext hC
  intro w0; refine Spec.enter2 Tryz.func139 rfl Tryz.ntmps139 (by decide) ?_
  repeat' (first|refine Ga0 fun _=>?_|refine Ga1 ?_|refine Ga2 (fun _=>?_) fun _=>?_|refine Ga3 ?_|refine Ga4 fun _=>?_|fail)
  rename_i b2 ri
  refine CW.loop (fun k ρ ds L' => ds = [] ∧ (∃ X ec bc seen, L' = X ++ ((ri, .mapIter (some bn) c seen c) :: (b2, .cells (wcells t r vb vd vo at_ bp).toArray 132 (0, 0)) :: (A ++ [(bn, .map (List.toArray ec) c)] ++ B)) ∧ KV .i64 ec c ∧ HB ec bc ∧ (∀ n, bc n = b n ∨ (bc n = none ∧ b n = some (t.hslot, t.hgen))) ∧ (∀ e ∈ ec, seen.contains e.born = true → e.val ≠ hdV (t.hslot, t.hgen)) ∧ k = (ec.filter fun x => !seen.contains x.born).length) ∧
    Ev ρ 1 (.map (some bn)) ∧ Ev ρ 2 (.pointer (some ⟨b2, 0, none⟩)) ∧ Ev ρ 7 (.pointer (some ⟨ri, 0, none⟩))) es.length
    ⟨rfl, ⟨[], es, b, #[], rfl, hk, hb, fun _ => .inl rfl, fun e _ h => by simp at h, by rw [List.filter_eq_self.2 (fun e _ => by simp)]⟩, ii, ii, ii⟩ ?_
  rintro k ρ ds L' ⟨rfl, ⟨X, ec, bc, seen, rfl, hkc, hbc, hsub, hseen, rfl⟩, e1, e2, e7⟩
  repeat' (first|refine Ga0 fun _=>?_|refine Ga1 ?_|refine Ga2 (fun _=>?_) fun _=>?_|refine Ga3 ?_|refine Ga4 fun _=>?_|fail)
  refine OW.nextZ (r := ri) (m := bn) (since := c) (c0 := c) (clock := c) (seen := seen) (es := ec) (zs := ec.map fun e => (e, ())) hkc (by rw [List.map_map]; exact (List.map_id ec).symm) leftU (fun e he => hkc.old e he) (Nat.le_refl _) (fun h => ?_) (fun A' z B' htz hz' hl' => ?_)
  · have hall : ∀ e ∈ ec, seen.contains e.born = true := fun e he => by
      cases hc : seen.contains e.born with
      | true => rfl
      | false =>
        have : (e, ()) ∈ (ec.filter fun x => !seen.contains x.born).map fun e => (e, ()) := List.mem_map.2 ⟨e, List.mem_filter.2 ⟨he, by rw [hc]; rfl⟩, rfl⟩
        rw [h] at this
        cases this
    have hfin : HB ec (fun n => if b n = some (t.hslot, t.hgen) then none else b n) := fun n => by
      rw [hbc n]
      rcases hsub n with h1 | ⟨h1, h2⟩
      · by_cases h3 : b n = some (t.hslot, t.hgen)
        · have h4 := hbc n
          rw [h1, h3] at h4
          obtain ⟨P1, e, P2, q1, q2, q3⟩ := hkc.some_of h4
          have hm : e ∈ ec := by rw [q1]; simp
          exact absurd q3 (hseen e hm (hall e hm))
        · simp only [if_neg h3, h1]
      · simp only [if_pos h2, h1]
    repeat' (first|refine Ga0 fun _=>?_|refine Ga1 ?_|refine Ga2 (fun _=>?_) fun _=>?_|refine Ga3 ?_|refine Ga4 fun _=>?_|fail)
    exact bodyK.nrmD (A ++ [(bn, .map ec.toArray c)] ++ B) (Res.zero Tryz.results139) ⟨ec, c, rfl, hkc, hfin⟩
  · obtain ⟨z1, ⟨⟩⟩ := z
    have hze : z1 ∈ ec := by simpa using hz'
    have hns : seen.contains z1.born = false := by
      have : (z1, ()) ∈ (ec.filter fun x => !seen.contains x.born).map fun e => (e, ()) := by rw [htz]; simp
      simp only [List.mem_map, List.mem_filter, Prod.mk.injEq, and_true, exists_eq_right] at this
      simpa using this.2
    obtain ⟨kz, hkz⟩ := hkc.keys z1 hze
    have hfz := hkc.find_of hze
    have hkI : kI z1.key = kz := by rw [hkz]; rfl
    rw [hkI] at hfz
    have hbz := hbc kz
    rw [hfz] at hbz
    obtain ⟨y, hy, hyv⟩ : ∃ y, bc kz = some y ∧ z1.val = hdV y := by
      cases hbk : bc kz with
      | none => rw [hbk] at hbz; cases hbz
      | some y => rw [hbk] at hbz; exact ⟨y, rfl, by simpa using hbz⟩
    have hlen : (ec.filter fun x => !seen.contains x.born).length = (A' ++ (z1, ()) :: B').length := by rw [← htz, List.length_map]
    have hlen2 : ((ec.filter fun x => !(seen.push z1.born).contains x.born).map fun e => (e, ())) = A' ++ B' := by
      have := leftU (es := ec) (seen := seen.push z1.born)
      unfold LeftZ at this hl'
      rw [this, hl']
    have hlen3 := congrArg List.length hlen2
    rw [List.length_map] at hlen3
    have hps : (seen.push z1.born).contains z1.born = true := by simp
    repeat' (first|refine Ga0 fun _=>?_|refine Ga1 ?_|refine Ga2 (fun _=>?_) fun _=>?_|refine Ga3 ?_|refine Ga4 fun _=>?_|fail)
    refine OW.entryE (r := ri) (m := bn) (since := c) (c := c) (seen := seen) (e := z1) hkc hze ?_
    rw [hkz, hyv]
    by_cases heq : y.1 = t.hslot ∧ y.2 = t.hgen
    · have hyh : y = (t.hslot, t.hgen) := Prod.ext heq.1 heq.2
      repeat' (first|refine Ga0 fun _=>?_|refine Ga1 ?_|refine Ga2 (fun _=>?_) fun _=>?_|refine Ga3 ?_|refine Ga4 fun _=>?_|fail)
      refine OW.mapDel (m := bn) (k := .i64) (j := kz) (c := c) (es := ec) hkc ?_
      rw [updO_none]
      repeat' (first|refine Ga0 fun _=>?_|refine Ga1 ?_|refine Ga2 (fun _=>?_) fun _=>?_|refine Ga3 ?_|refine Ga4 fun _=>?_|fail)
      refine ⟨(ec.filter fun x => !(seen.push z1.born).contains x.born).length, by rw [hlen3, hlen]; simp, rfl, ⟨_ :: X, delE kz ec, fun n => if n = kz then none else bc n, seen.push z1.born, rfl, hkc.del, hbc.del hkc kz, fun n => ?_, fun e he hs => ?_, ?_⟩, ii, ii, ii⟩
      · by_cases hn : n = kz
        · subst hn
          right
          refine ⟨if_pos rfl, ?_⟩
          rcases hsub n with h1 | ⟨h1, h2⟩
          · rw [← h1, hy, hyh]
          · exact h2
        · simp only [if_neg hn]; exact hsub n
      · obtain ⟨he1, he2⟩ := List.mem_filter.1 he
        simp only [Array.contains_push, Bool.or_eq_true, beq_iff_eq] at hs
        rcases hs with hs | hs
        · first
            | exact hseen e he1 hs
            | (have := inj_of hkc.births e he1 z1 hze hs
               subst this
               simp [hkI] at he2)
        · first
            | exact hseen e he1 hs
            | (have := inj_of hkc.births e he1 z1 hze hs
               subst this
               simp [hkI] at he2)
      · have := del_left hkc hze hps
        rw [hkI] at this
        rw [this]
    · repeat' (first|refine Ga0 fun _=>?_|refine Ga1 ?_|refine Ga2 (fun _=>?_) fun _=>?_|refine Ga3 ?_|refine Ga4 fun _=>?_|fail)
      refine ⟨(ec.filter fun x => !(seen.push z1.born).contains x.born).length, by rw [hlen3, hlen]; simp, rfl, ⟨_ :: X, ec, bc, seen.push z1.born, rfl, hkc, hbc, hsub, fun e he hs => ?_, rfl⟩, ii, ii, ii⟩
      simp only [Array.contains_push, Bool.or_eq_true, beq_iff_eq] at hs
      have hnot : e.born = z1.born → e.val ≠ hdV (t.hslot, t.hgen) := fun h => by
        have := inj_of hkc.births e he z1 hze h
        subst this
        rw [hyv]
        intro h2
        simp only [hdV, Value.agg.injEq, Array.mk.injEq, List.cons.injEq, Value.int.injEq, true_and, and_true] at h2
        exact heq h2
      rcases hs with hs | hs
      · first
          | exact hseen e he hs
          | exact hnot hs
      · first
          | exact hseen e he hs
          | exact hnot hs
@[reducible] def doesE : List MapEntry := [⟨.int .i64 2, .func (.func 139) #[] #[], 0⟩, ⟨.int .i64 3, .func (.func 140) #[] #[], 1⟩, ⟨.int .i64 4, .func (.func 141) #[] #[], 2⟩]
theorem jk_nil : keysI .i64 [] := fun _ h => (by cases h)
theorem jk_snoc {es : List MapEntry} {j : Int} {v : Value} {c : Nat} (h : keysI .i64 es) : keysI .i64 (es ++ [⟨.int .i64 j, v, c⟩]) := fun e he => by
 rcases List.mem_append.1 he with he | he
 ·exact h e he
 ·rw [List.mem_singleton.1 he]; exact ⟨_, rfl⟩
theorem doesKeys : keysI .i64 doesE := fun e he => by
 simp only [doesE, List.mem_cons, List.not_mem_nil, or_false] at he
 rcases he with rfl | rfl | rfl <;> exact ⟨_, rfl⟩
theorem jBinds (L : Chunk) : Fn1 Tryz.prog 98 [] L (fun u L' => ∃ b, u = .map (some b) ∧ L' = (b, .map doesE.toArray 3) :: L) := by
 intro w0; refine Spec.enter0 Tryz.func98 rfl Tryz.ntmps98 ?_
 repeat' (first|refine Ga0 fun _=>?_|refine Ga1 ?_|refine Ga2 (fun _=>?_) fun _=>?_|refine Ga3 ?_|refine Ga4 fun _=>?_|fail)
 refine OW.u (h := ef_insertNew ii ii ii ii ii ii jk_nil (by simp [findI]) ii) ?_
 refine OW.u (h := ef_insertNew ii ii ii ii ii ii (jk_snoc jk_nil) (by simp [findI]) ii) ?_
 refine OW.u (h := ef_insertNew ii ii ii ii ii ii (jk_snoc (jk_snoc jk_nil)) (by simp [findI]) ii) ?_
 repeat' (first|refine Ga0 fun _=>?_|refine Ga1 ?_|refine Ga2 (fun _=>?_) fun _=>?_|refine Ga3 ?_|refine Ga4 fun _=>?_|fail)
 exact bodyK.ret (Res.one Tryz.results98) ⟨_, rfl, rfl⟩
theorem doesVP (t : Turn) (r : Rp) (vb vd vo : Value) (at_ : Int) (bp bn : Nat) (b : Bnd) (C : Chunk → Chunk) (es : List MapEntry) (c : Nat) (L : Chunk) (s1 : Sng vb) (s2 : Sng vd) (s3 : Sng vo) (hat : At L [(bn, .map es.toArray c)] C) (hk : KV .i64 es c) (hb : HB es b) (he : r.errno = 0) (hth : isThread t.thread ∨ t.kind = 2) {v : Value} (hf : findI doesE t.kind = some v) :
  VP Tryz.prog v [.agg (wcells t r vb vd vo at_ bp).toArray, .map (some bn)] L (fun _ L' => ∃ es' c', L' = C [(bn, .map (List.toArray es') c')] ∧ KV .i64 es' c' ∧ HB es' (bindStep b t r)) noPanic := by
 by_cases h2 : t.kind = 2
 ·simp [findI, h2] at hf; subst hf
  have e : bindStep b t r = fun n => if b n = some (t.hslot, t.hgen) then none else b n := by unfold bindStep; rw [if_pos ⟨he, h2⟩]
  rw [e]
  exact FnP.vp (first := #[]) (cap := #[]) (jBind1 t r vb vd vo at_ bp bn b C es c L hk hb)
 have hth' : 0 ≤ t.thread ∧ t.thread < 4 := hth.resolve_right h2
 by_cases h3 : t.kind = 3
 ·simp [findI, h3] at hf; subst hf
  have e : bindStep b t r = fun n => if n = t.thread then (if (t.hslot, t.hgen) = (0, 0) then none else some (t.hslot, t.hgen)) else b n := by unfold bindStep; rw [if_neg fun h => h2 h.2, if_pos ⟨he, hth', h3⟩]
  rw [e]
  exact FnP.vp (first := #[]) (cap := #[]) (jBind2 t r vb vd vo at_ bp bn b C es c L hk hb)
 by_cases h4 : t.kind = 4
 ·simp [findI, h4] at hf; subst hf
  have e : bindStep b t r = fun n => if n = t.thread then none else b n := by unfold bindStep; rw [if_neg fun h => h2 h.2, if_neg fun h => h3 h.2.2, if_pos ⟨he, hth', h4⟩]
  rw [e]
  exact FnP.vp (first := #[]) (cap := #[]) (jBind3 t r vb vd vo at_ bp bn b C es c L hk hb)
 ·simp [findI, h2, h3, h4] at hf
theorem doesNone {k : Int} (hf : findI doesE k = none) : k ≠ 2 ∧ k ≠ 3 ∧ k ≠ 4 := by
 refine ⟨fun h => ?_, fun h => ?_, fun h => ?_⟩ <;> simp [findI, h] at hf
theorem step_none {b : Bnd} {t : Turn} {r : Rp} (h : ¬ (r.errno = 0 ∧ (isThread t.thread ∨ t.kind = 2)) ∨ (t.kind ≠ 2 ∧ t.kind ≠ 3 ∧ t.kind ≠ 4)) : bindStep b t r = b := by
 unfold bindStep
 unfold isThread at h
 rw [if_neg (by omega), if_neg (by omega), if_neg (by omega)]
end Go.Proofs.YtmnhooepaemlcaaGreat
