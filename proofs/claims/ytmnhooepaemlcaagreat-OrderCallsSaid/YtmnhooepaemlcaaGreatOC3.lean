/-
  For every input the law OrderCalls returns true, and each argument reads behind the call as it read before. This text holds lemmas for it (part 3).
  Conditions: none.
-/
import Derived.Test.YtmnhooepaemlcaaGreatOC1
import Derived.Test.YtmnhooepaemlcaaGreatOC2
import Derived.SizedLaws
set_option linter.all false
namespace Go.Pw.Md
theorem charge_without {m : Mod} (hm : WF m) {p : Pc} (hp : p ∈ m.L) : ((m.L.filter fun q => decide (q.ad ≠ p.ad)).map Pc.room).sum = m.charge - p.room := by
 have key : ∀ (l : List Pc), (l.Pairwise fun p q => p.ad + p.room ≤ q.ad) → (∀ p ∈ l, PcOk p) → p ∈ l → ((l.filter fun q => decide (q.ad ≠ p.ad)).map Pc.room).sum = (l.map Pc.room).sum - p.room := by
  intro l
  induction l with
  | nil => intro _ _ h; cases h
  | cons x l ih =>
   intro hl hok hp
   rw [List.pairwise_cons] at hl
   have rx := (hok x (List.mem_cons_self ..)).room
   rcases List.mem_cons.1 hp with rfl | hp1
   ·rw [List.filter_cons_of_neg (by simp), List.filter_eq_self.2]
    ·simp only [List.map_cons, List.sum_cons]; omega
    ·intro q hq
     have := hl.1 q hq
     simp only [decide_eq_true_eq]; omega
   ·have := hl.1 p hp1
    rw [List.filter_cons_of_pos (by simp only [decide_eq_true_eq]; omega)]
    have := ih hl.2 (fun p hp => hok p (List.mem_cons_of_mem _ hp)) hp1
    simp only [List.map_cons, List.sum_cons]; omega
 exact key m.L hm.apart hm.ok hp
theorem access_wf {m : Mod} (hm : WF m) {kind ad many : Int} {o : OutM} {bs : List Int} (hb : ∀ x ∈ bs, 0 ≤ x ∧ x ≤ 255) (h : (access m kind ad o bs many).2 = true) : WF (access m kind ad o bs many).1 := by
 unfold access at *
 repeat' split
 all_goals first | exact hm | skip
 exact map_wf hm fun p hp => ⟨over_ok (hm.ok p hp) hb, rfl, rfl⟩
theorem realloc_wf {m : Mod} (hm : WF m) {x : OpM} {o : OutM} (ho : 0 ≤ o.ad) (h : (realloc m x o).2 = true) : WF (realloc m x o).1 := by
 unfold realloc at *
 cases hf : m.find x.ad with
 | none => simp only; exact hm
 | some p =>
  obtain ⟨hp, hpa⟩ := find_some hf
  have okp := hm.ok p hp
  rw [hf] at h
  simp only at h ⊢
  cases hn : needOf x.size 1 with
  | none => simp only; exact hm
  | some nd =>
   rw [hn] at h
   simp only at h ⊢
   obtain ⟨c1, c2, c3⟩ := needOf_charge hn
   split
   ·rename_i hg
    split
    ·refine map_wf hm fun q hq => ?_
     have oq := hm.ok q hq
     split
     ·rename_i he
      refine ⟨⟨oq.ad, oq.room, oq.fin, ?_, ?_, oq.len, oq.byt⟩, rfl, rfl⟩
      ·simp only; omega
      ·have := find_of hm hq
       rw [he, find_of hm hp] at this
       cases this
       simp only; omega
     ·exact ⟨oq, rfl, rfl⟩
    ·exact hm
   ·rename_i hg
    rw [if_neg hg] at h
    have hlen : ((p.b.take (min p.size (max 1 x.size)).toNat).length : Int) ≤ nd.charge := by
     rw [List.length_take]; omega
    have hby : ∀ z ∈ p.b.take (min p.size (max 1 x.size)).toNat, -1 ≤ z ∧ z ≤ 255 := fun z hz => okp.byt z (List.mem_of_mem_take hz)
    have hh := handed_wf hm (x := nd) (size := x.size) (mult := 1) (less := p.room) (o := o) (b := p.b.take (min p.size (max 1 x.size)).toNat) ho c1 hlen hby
    generalize hr : handed m nd x.size 1 p.room o (p.b.take (min p.size (max 1 x.size)).toNat) = r at h hh ⊢
    by_cases he : r.2 = true ∧ o.errno = 0
    ·simp only [if_pos he] at h ⊢
     obtain ⟨e1, e2, e3, e4⟩ := (hh he.1).2 he.2
     rw [e1]
     generalize hq : piece o.ad x.size nd.charge (p.b.take (min p.size (max 1 x.size)).toNat) = q at e2 ⊢
     have hqa : q.ad = o.ad ∧ q.room = nd.charge := by subst hq; exact ⟨rfl, rfl⟩
     have hfit := e3.2.2.2.2
     have hne : q.ad ≠ p.ad := fun e => by
      have := hfit p hp
      have := e2.room
      have := okp.room
      omega
     refine ⟨hm.slot0, hm.slot1, hm.quota0, hm.quota1, ?_, fun z hz => ?_, ?_⟩
     ·exact (ins_apart hm.apart hm.ok (fun z hz => by rw [hqa.1, hqa.2]; exact hfit z hz) e2.room).filter _
     ·rcases List.mem_cons.1 ((ins_perm q m.L).mem_iff.1 (List.mem_filter.1 hz).1) with rfl | hz
      ·exact e2
      ·exact hm.ok z hz
     ·have h1 := sum_perm ((ins_perm q m.L).filter fun z => decide (z.ad ≠ p.ad))
      have h2 := charge_without hm hp
      rw [List.filter_cons_of_pos (by simpa using hne)] at h1
      simp only [List.map_cons, List.sum_cons] at h1
      unfold Mod.charge Mod.without at *
      simp only at *
      omega
    ·simp only [if_neg he] at h ⊢
     have : o.errno ≠ 0 := fun e => he ⟨h, e⟩
     rw [(hh h).1 this]
     exact hm
theorem handed_wf' {m : Mod} (hm : WF m) {x : NeedM} {size mult : Int} {o : OutM} {b : List Int} (h0 : 0 ≤ o.ad) (hs : max 1 size ≤ x.charge) (hb : (b.length : Int) ≤ x.charge) (hy : ∀ z ∈ b, -1 ≤ z ∧ z ≤ 255)
  (h : (handed m x size mult 0 o b).2 = true) : WF (handed m x size mult 0 o b).1 := by
 have hh := handed_wf (mult := mult) (less := 0) hm h0 hs hb hy h
 by_cases he : o.errno = 0
 ·obtain ⟨e1, e2, e3, e4⟩ := hh.2 he
  rw [e1]
  exact ins_wf hm e2 (fun q hq => e3.2.2.2.2 q hq) (by
   have : (piece o.ad size x.charge b).room = x.charge := rfl
   omega)
 ·rw [hh.1 he]; exact hm
theorem step_wf {m : Mod} (hm : WF m) {x : OpM} {o : OutM} (ho : 0 ≤ o.ad) (hx : ∀ z ∈ x.bytes, 0 ≤ z ∧ z ≤ 255) (hob : ∀ z ∈ o.bytes, 0 ≤ z ∧ z ≤ 255) (h : (step m x o).2 = true) : WF (step m x o).1 := by
 unfold step at *
 split
 ·rename_i hk
  rw [if_pos hk] at h
  cases hn : needOf x.size x.mult with
  | none => exact hm
  | some nd =>
   rw [hn] at h
   obtain ⟨c1, c2, c3⟩ := needOf_charge hn
   exact handed_wf' hm ho c1 (by simp only [List.length_nil]; omega) (fun _ h => (by cases h)) h
 ·rename_i hk
  rw [if_neg hk] at h
  split
  ·rename_i hk
   rw [if_pos hk] at h
   cases ht : total x.many x.size with
   | none => exact hm
   | some t =>
    rw [ht] at h
    simp only at h ⊢
    cases hn : needOf t 1 with
    | none => exact hm
    | some nd =>
     rw [hn] at h
     obtain ⟨c1, c2, c3⟩ := needOf_charge hn
     exact handed_wf' hm ho c1 (by simp only [List.length_replicate]; omega) (fun z hz => by rw [List.mem_replicate] at hz; omega) h
  ·rename_i hk
   rw [if_neg hk] at h
   split
   ·rename_i hk
    cases hf : m.find x.ad with
    | none => exact hm
    | some p =>
     simp only
     split
     ·exact without_wf hm _
     ·exact hm
   ·rename_i hk
    rw [if_neg hk] at h
    split
    ·rename_i hk
     rw [if_pos hk] at h
     exact realloc_wf hm ho h
    ·rename_i hk
     rw [if_neg hk] at h
     split
     ·cases hf : m.find x.ad with
      | none => exact hm
      | some p => exact hm
     ·rename_i hk
      rw [if_neg hk] at h
      split
      ·rename_i hk
       rw [if_pos hk] at h
       exact access_wf hm hob h
      ·rename_i hk
       rw [if_neg hk] at h
       split
       ·exact hm
       ·rename_i hb
        rw [if_neg hb] at h
        exact access_wf hm hx h
theorem start_wf {slot quota : Int} (h : 0 ≤ slot ∧ slot < 4 ∧ 0 ≤ quota ∧ quota ≤ 1073741824) : WF ⟨slot, quota, []⟩ :=
 ⟨h.1, h.2.1, h.2.2.1, h.2.2.2, .nil, fun _ h => (by cases h), by simpa [Mod.charge] using h.2.2.1⟩
def okO : OutM := ⟨0, 0, 0, []⟩
end Go.Pw.Md

namespace Go.Pw.Md
def Keeps (m : Mod) (m' : Mod) : Prop := m'.slot = m.slot ∧ m'.quota = m.quota
theorem Keeps.rfl (m : Mod) : Keeps m m := ⟨_root_.rfl, _root_.rfl⟩
theorem handed_keeps (m : Mod) (x : NeedM) (size mult less : Int) (o : OutM) (b : List Int) : Keeps m (handed m x size mult less o b).1 := by
 unfold handed
 split
 ·exact .rfl m
 ·split
  ·exact .rfl m
  ·split
   ·exact ⟨rfl, rfl⟩
   ·exact .rfl m
theorem access_keeps (m : Mod) (kind ad : Int) (o : OutM) (bs : List Int) (many : Int) : Keeps m (access m kind ad o bs many).1 := by
 unfold access
 split
 ·exact .rfl m
 ·split
  ·exact .rfl m
  ·split
   ·exact .rfl m
   ·split
    ·exact ⟨rfl, rfl⟩
    ·exact .rfl m
theorem realloc_keeps (m : Mod) (x : OpM) (o : OutM) : Keeps m (realloc m x o).1 := by
 unfold realloc
 split
 ·exact .rfl m
 ·split
  ·exact .rfl m
  ·split
   ·split
    ·exact ⟨rfl, rfl⟩
    ·exact .rfl m
   ·simp only
    split
    ·exact ⟨(handed_keeps ..).1, (handed_keeps ..).2⟩
    ·exact handed_keeps ..
theorem step_keeps (m : Mod) (x : OpM) (o : OutM) : Keeps m (step m x o).1 := by
 unfold step
 repeat' split
 all_goals first
  | exact .rfl m
  | exact handed_keeps ..
  | exact access_keeps ..
  | exact realloc_keeps ..
  | exact ⟨rfl, rfl⟩
def next (m : Mod) (x : OpM) (o : OutM) : Mod × Bool := if 1 ≤ x.kind ∧ x.kind ≤ 7 then step m x o else (m, false)
def nextE (x : OpM) : Int := if 1 ≤ x.kind ∧ x.kind ≤ 7 then 0 else 2
theorem next_keeps (m : Mod) (x : OpM) (o : OutM) : Keeps m (next m x o).1 := by
 unfold next
 split
 ·exact step_keeps ..
 ·exact .rfl m
theorem next_wf {m : Mod} (hm : WF m) {x : OpM} {o : OutM} (ho : 0 ≤ o.ad) (hx : ∀ z ∈ x.bytes, 0 ≤ z ∧ z ≤ 255) (hob : ∀ z ∈ o.bytes, 0 ≤ z ∧ z ≤ 255) (h : (next m x o).2 = true) : WF (next m x o).1 := by
 unfold next at *
 split
 ·rename_i hk
  rw [if_pos hk] at h
  exact step_wf hm ho hx hob h
 ·exact hm
def after (m : Mod) (x : OpM) (o : OutM) : Mod := if (next m x o).2 then (next m x o).1 else m
theorem after_keeps (m : Mod) (x : OpM) (o : OutM) : Keeps m (after m x o) := by
 unfold after
 split
 ·exact next_keeps ..
 ·exact .rfl m
theorem after_wf {m : Mod} (hm : WF m) {x : OpM} {o : OutM} (ho : 0 ≤ o.ad) (hx : ∀ z ∈ x.bytes, 0 ≤ z ∧ z ≤ 255) (hob : ∀ z ∈ o.bytes, 0 ≤ z ∧ z ≤ 255) : WF (after m x o) := by
 unfold after
 split
 ·rename_i h
  exact next_wf hm ho hx hob h
 ·exact hm
end Go.Pw.Md

namespace Go.Pw.Md
open Go.Pw.Sc
def LAt {α : Type} (s : Nat) (R : List Value → α → Prop) : List Value → List α → Prop
 | xs, [] => xs = []
 | xs, a :: ags => ∃ c r, xs = c ++ r ∧ c.length = s ∧ R c a ∧ LAt s R r ags
section
variable {α : Type} {s : Nat} {R R' : List Value → α → Prop}
theorem LAt.mono (hm : ∀ c a, R c a → R' c a) : ∀ {xs : List Value} {ags : List α}, LAt s R xs ags → LAt s R' xs ags
 | _, [], h => h
 | _, _ :: _, ⟨c, r, e, h0, h1, h2⟩ => ⟨c, r, e, h0, hm _ _ h1, LAt.mono hm h2⟩
theorem LAt.length : ∀ {xs : List Value} {ags : List α}, LAt s R xs ags → xs.length = ags.length * s
 | xs, [], h => by have : xs = [] := h; simp [this]
 | _, t :: ts, ⟨c, r, e, h0, h1, h2⟩ => by rw [e, List.length_append, h0, LAt.length h2, List.length_cons, Nat.add_mul]; omega
theorem LAt.append : ∀ {xs ys : List Value} {ags bs : List α}, LAt s R xs ags → LAt s R ys bs → LAt s R (xs ++ ys) (ags ++ bs)
 | xs, ys, [], bs, h, h1 => by have : xs = [] := h; rw [this]; exact h1
 | _, ys, a :: ags, bs, ⟨c, r, e, h0, h1, h2⟩, h3 => ⟨c, r ++ ys, by rw [e, List.append_assoc], h0, h1, LAt.append h2 h3⟩
theorem LAt.one {c : List Value} {a : α} (h0 : c.length = s) (h : R c a) : LAt s R c [a] := ⟨c, [], by simp, h0, h, rfl⟩
theorem LAt.get : ∀ {xs : List Value} {ags : List α} (i : Nat) (hi : i < ags.length), LAt s R xs ags → R ((xs.drop (i * s)).take s) ags[i]
 | _, _ :: _, 0, _, ⟨c, r, e, h0, h1, h2⟩ => by
  rw [e, Nat.zero_mul, List.drop_zero, List.take_append_of_le_length (by omega), List.take_of_length_le (by omega)]
  exact h1
 | _, _ :: ts, i + 1, hi, ⟨c, r, e, h0, h1, h2⟩ => by
  have h3 := LAt.get i (by simpa using hi) h2
  have e1 : (c ++ r).drop ((i + 1) * s) = r.drop (i * s) := by
   rw [show (i + 1) * s = c.length + i * s by rw [h0, Nat.add_mul]; omega, ← List.drop_drop, List.drop_left]
  rw [e, e1]
  exact h3
end
structure LS {α : Type} (s : Nat) (R : Chunk → List Value → α → Prop) (L : Chunk) (v : Value) (ags : List α) : Prop where
 rd : ∃ xs, Rd L s v ags.length xs ∧ LAt s (R L) xs ags
 len : (ags.length : Int) ≤ 9223372036854775807
section
variable {α : Type} {s : Nat} {R : Chunk → List Value → α → Prop} {L L' : Chunk} {v : Value} {ags : List α}
theorem LS.to (h : LS s R L v ags) [hm : MemC L L'] (hR : ∀ c a, R L c a → R L' c a) : LS s R L' v ags := ⟨let ⟨xs, a, b⟩ := h.rd; ⟨xs, a.to, b.mono hR⟩, h.len⟩
theorem LS.slice (h : LS s R L v ags) : ∃ a c, v = .slice a ags.length c := let ⟨_, a, _⟩ := h.rd; let ⟨b, c, h, _⟩ := a.isSlice; ⟨b, c, h⟩
theorem LS.sng (h : LS s R L v ags) : Sng v := by obtain ⟨a, c, rfl⟩ := h.slice; infer_instance
theorem LS.open (h : LS s R L v ags) (hn : ags.length ≠ 0) :
  ∃ b k cap l e fr, v = .slice (some ⟨b, k, none⟩) ags.length cap ∧ InC L b (.cells (List.toArray l) e fr) ∧ ags.length ≤ cap ∧ ∀ i (hi : i < ags.length), ∃ c, CutL l (k + i * s) s c ∧ R L c ags[i] := by
 obtain ⟨xs, hr, hl⟩ := h.rd
 obtain ⟨b, k, cap, l, e, fr, h1, h2, h3, h4⟩ := hr.open hn
 exact ⟨b, k, cap, l, e, fr, h1, h2, h3, fun i hi => ⟨_, h4 i hi, hl.get i hi⟩⟩
end
theorem cutSub {l c : List Value} {k n : Nat} (h : CutL l k n c) (a m : Nat) (ham : a + m ≤ n) : CutL l (k + a) m ((c.drop a).take m) := ⟨by
 have := h.out.1; omega, by
 rw [← h.out.2]
 simp only [List.drop_take, List.take_take, List.drop_drop]
 congr 1
 omega⟩
structure ActM where
 op : OpM
 out : OutM
 ask : Bool
structure OpR0 (x : OpM) : Prop where
 kind : inR .i64 x.kind
 ad : inR .u32 x.ad
 size : inR .u64 x.size
 mult : inR .u64 x.mult
 many : inR .u64 x.many
structure OutR0 (o : OutM) : Prop where
 errno : inR .i64 o.errno
 ad : inR .u32 o.ad
 n : inR .i64 o.n
@[reducible] def opC (x : OpM) (vx : Value) : List Value := [.int .i64 x.kind, .int .u32 x.ad, .int .u64 x.size, .int .u64 x.mult, .int .u64 x.many, vx]
@[reducible] def outC (o : OutM) (vb : Value) : List Value := [.int .i64 o.errno, .int .u32 o.ad, .int .i64 o.n, vb]
def ActAt (L : Chunk) (c : List Value) (a : ActM) : Prop := ∃ vx vb, c = opC a.op vx ++ outC a.out vb ++ [.bool a.ask] ∧ BS L vx a.op.bytes ∧ BS L vb a.out.bytes ∧ OpR0 a.op ∧ OutR0 a.out
def OutAt (L : Chunk) (c : List Value) (o : OutM) : Prop := ∃ vb, c = outC o vb ∧ BS L vb o.bytes ∧ OutR0 o
theorem ActAt.to {L L' : Chunk} [hm : MemC L L'] (c : List Value) (a : ActM) (h : ActAt L c a) : ActAt L' c a := let ⟨vx, vb, a, b, c, d⟩ := h; ⟨vx, vb, a, b.to, c.to, d⟩
theorem OutAt.to {L L' : Chunk} [hm : MemC L L'] (c : List Value) (a : OutM) (h : OutAt L c a) : OutAt L' c a := let ⟨vb, a, b, c⟩ := h; ⟨vb, a, b.to, c⟩
abbrev AS (L : Chunk) (v : Value) (ags : List ActM) : Prop := LS 11 ActAt L v ags
theorem AS.to' {L L' : Chunk} {v : Value} {ags : List ActM} (h : AS L v ags) [hm : MemC L L'] : AS L' v ags := LS.to h (fun c a h => ActAt.to c a h)
end Go.Pw.Md

namespace Go.Pw.Md
open Go.ChangeShapes Go.WideShapes Go.Pw.Sc
section
variable {H : Type} {enc : TypeId × Value → H} {P : Program} {w : World} {base : Nat} {spare : Nat → Bool} {held : Bool}
theorem LS.nil {α : Type} {s : Nat} {R : Chunk → List Value → α → Prop} {L : Chunk} : LS s R L (.slice none 0 0) [] := ⟨⟨[], ⟨by simp, .inl ⟨⟨_, _, rfl⟩, rfl⟩⟩, rfl⟩, by simp⟩
theorem ls_of_trod {α : Type} [Inhabited α] {s : Nat} {R : Chunk → List Value → α → Prop} {t e : TypeId} {fuel : Nat} {cs : List Value} {x : DataW H × List MemPlace} (hs0 : 0 < s) (ht : P.underlying t = some (.slice e)) (hc : P.cellsOf e = s)
  (hel : ∀ (fuel : Nat) (cs : List Value) (x : DataW H × List MemPlace), DataW.trod enc P w base spare held fuel e cs = some x → ∃ u, R (whole w) cs u ∧ cs.length = s)
  (h : DataW.trod enc P w base spare held fuel t cs = some x) : ∃ v ags, cs = [v] ∧ LS s R (whole w) v ags ∧ (ags = [] ∨ ∃ elems sp, x.1 = .slice elems sp ∧ elems.length = ags.length) := by
 rcases Go.Deep.open_slice ht h with ⟨rfl, _⟩ | ⟨a, len, cap, m, n, D, Pl, rfl, hb, hl, hm, hmm, hxx, hx⟩
 ·exact ⟨_, [], rfl, LS.nil, .inl rfl⟩
 ·rw [hc] at hx
  have hle : len ≤ m := by rw [hmm]; split <;> omega
  have hcap : (cap : Int) ≤ 9223372036854775807 := by have : cap ≤ maxLen := hm; unfold maxLen at this; omega
  by_cases h0 : len = 0
  ·subst h0
   exact ⟨_, [], rfl, ⟨⟨[], ⟨by simp, .inl ⟨⟨_, _, rfl⟩, rfl⟩⟩, rfl⟩, by simp⟩, .inl rfl⟩
  ·obtain ⟨T, hT⟩ := Go.Deep.choose_lt (α := List Value × α) (n := len) (p := fun i p => w.cells? base (a.add (i * s)) s = some p.1 ∧ R (whole w) p.1 p.2 ∧ p.1.length = s) (fun i hi => by
    obtain ⟨cs', h1, h2⟩ := hx i (by omega)
    obtain ⟨u, hu, hu2⟩ := hel _ _ _ h2
    exact ⟨(cs', u), h1, hu, hu2⟩)
   have hdm : ∀ i j, j < s → (i * s + j) / s = i ∧ (i * s + j) % s = j := fun i j hj => by
    refine ⟨?_, ?_⟩
    ·rw [Nat.mul_comm, Nat.mul_add_div hs0, Nat.div_eq_of_lt hj, Nat.add_zero]
    ·rw [Nat.mul_comm, Nat.mul_add_mod, Nat.mod_eq_of_lt hj]
   have hV : ∀ j, j < len * s → w.cell? (a.add j) = some (((T (j / s)).1)[j % s]?.getD .nilFunc) := fun j hj => by
    have hd : j / s < len := (Nat.div_lt_iff_lt_mul hs0).2 hj
    have hmod : j % s < s := Nat.mod_lt _ hs0
    obtain ⟨g1, g2, hl13⟩ := hT (j / s) hd
    obtain ⟨_, g3, g4⟩ := World.cells?_some g1
    have g5 := g4 (j % s) (by omega)
    rw [Go.Deep.add_add, Nat.div_add_mod' j s] at g5
    rw [g5, List.getElem?_eq_getElem (by omega)]
    rfl
   obtain ⟨b, k, c, ee, fr, rfl, h1, h2, h3⟩ := cells_row (w := w) (a := a) (n := len * s) (V := fun j => ((T (j / s)).1)[j % s]?.getD .nilFunc) (Nat.mul_pos (by omega) hs0) hV
   have key : ∀ q, q ≤ len → (List.range (q * s)).map (fun j => ((T (j / s)).1)[j % s]?.getD .nilFunc) = ((List.range q).map fun i => (T i).1).flatten ∧ LAt s (R (whole w)) ((List.range q).map fun i => (T i).1).flatten ((List.range q).map fun i => (T i).2) := by
    intro q
    induction q with
    | zero => intro _; exact ⟨by simp, rfl⟩
    | succ q ih =>
     intro hq
     obtain ⟨i1, i2⟩ := ih (by omega)
     obtain ⟨g1, g2, hl13⟩ := hT q (by omega)
     have e1 : (List.range ((q + 1) * s)).map (fun j => ((T (j / s)).1)[j % s]?.getD .nilFunc) = (List.range (q * s)).map (fun j => ((T (j / s)).1)[j % s]?.getD .nilFunc) ++ (T q).1 := by
      rw [Nat.add_mul, Nat.one_mul, List.range_add, List.map_append]
      congr 1
      apply List.ext_getElem?
      intro j
      by_cases hj : j < s
      ·obtain ⟨d1, d2⟩ := hdm q j hj
       simp [hj, d1, d2, List.getElem?_eq_getElem (show j < (T q).1.length by omega)]
      ·simp [hj, List.getElem?_eq_none (show (T q).1.length ≤ j by omega)]
     refine ⟨?_, ?_⟩
     ·rw [e1, i1, List.range_succ, List.map_append, List.flatten_append]; simp
     ·rw [List.range_succ, List.map_append, List.map_append, List.flatten_append]
      simp only [List.map_cons, List.map_nil, List.flatten_cons, List.flatten_nil, List.append_nil]
      exact LAt.append i2 (LAt.one hl13 g2)
   obtain ⟨k1, k2⟩ := key len (Nat.le_refl _)
   refine ⟨_, (List.range len).map fun i => (T i).2, rfl, ⟨⟨_, ⟨?_, .inr ⟨b, k, cap, c, ee, fr, by simp, mem_whole.2 h1, by simpa using h2, ?_, by simp; omega⟩⟩, k2⟩, by simp; omega⟩, .inr ⟨_, _, by rw [hxx], by simp⟩⟩
   ·rw [k2.length]
   ·simp only [List.length_map, List.length_range]
    rw [h3, k1]
theorem bool_of {t : TypeId} {fuel : Nat} {cs : List Value} {x : DataW H × List MemPlace} (ht : P.underlying t = some .bool) (h : DataW.trod enc P w base spare held fuel t cs = some x) : ∃ b, cs = [.bool b] :=
 let ⟨b, h1, _⟩ := DataW.trod_bool ht h; ⟨b, h1⟩
end
end Go.Pw.Md

namespace Go.Pw.Or
open Go.Pw.Sc Go.Pw.Md
structure Td where
 thread : Int
 op : OpM
 out : OutM
 from_ : Int
 to_ : Int
def aheadP (a b : Td) : Prop := a.to_ < b.from_
instance (a b : Td) : Decidable (aheadP a b) := by unfold aheadP; infer_instance
def callOk (x : Td) : Prop := 0 ≤ x.thread ∧ x.thread < 4 ∧ 0 ≤ x.from_ ∧ x.from_ ≤ x.to_ ∧ 1 ≤ x.op.kind ∧ x.op.kind ≤ 7
instance (x : Td) : Decidable (callOk x) := by unfold callOk; infer_instance
def cross (x y : Td) : Prop := x.thread = y.thread ∧ ¬ aheadP x y ∧ ¬ aheadP y x
instance (x y : Td) : Decidable (cross x y) := by unfold cross; infer_instance
def badAt (l : List Td) (i : Nat) : Bool := match l[i]? with
 | some x => !decide (callOk x) || (l.take i).any (fun y => decide (cross y x))
 | none => false
def checkE (l : List Td) : Int := if (List.range l.length).any (badAt l) then 2 else if 10 < l.length then 3 else 0
def freeP (l : List Td) (o : List Nat) (i : Nat) : Bool := match l[i]? with
 | some x => !o.contains i && (List.range l.length).all (fun k => match l[k]? with | some y => !decide (aheadP y x) || o.contains k | none => true)
 | none => false
def mayP (l : List Td) (m : Mod) (i : Nat) : Bool := match l[i]? with | some x => (Md.next m x.op x.out).2 | none => false
def nextP (l : List Td) (m : Mod) (i : Nat) : Mod := match l[i]? with | some x => after m x.op x.out | none => m
def srch (l : List Td) : Nat → Mod → List Nat → Option (List Nat)
 | 0, _, _ => none
 | f + 1, m, o => if o.length = l.length then some o else (List.range l.length).findSome? fun i => if freeP l o i && mayP l m i then srch l f (nextP l m i) (o ++ [i]) else none
@[reducible] def tdC (x : Td) (vx vb : Value) : List Value := [.int .i64 x.thread, .int .i64 x.op.kind, .int .u32 x.op.ad, .int .u64 x.op.size, .int .u64 x.op.mult, .int .u64 x.op.many, vx, .int .i64 x.out.errno, .int .u32 x.out.ad, .int .i64 x.out.n, vb, .int .i64 x.from_, .int .i64 x.to_]
structure TdR (x : Td) : Prop where
 thread : inR .i64 x.thread
 op : OpR0 x.op
 out : OutR0 x.out
 from_ : inR .i64 x.from_
 to_ : inR .i64 x.to_
def TdAt (L : Chunk) (c : List Value) (x : Td) : Prop := ∃ vx vb, c = tdC x vx vb ∧ BS L vx x.op.bytes ∧ BS L vb x.out.bytes ∧ TdR x
theorem TdAt.to {L L' : Chunk} [hm : MemC L L'] (c : List Value) (x : Td) (h : TdAt L c x) : TdAt L' c x := let ⟨a, b, e, h1, h2, h3⟩ := h; ⟨a, b, e, h1.to, h2.to, h3⟩
end Go.Pw.Or

namespace Go.Pw
theorem Rd.sng {L : Chunk} {s n : Nat} {v : Value} {xs : List Value} (h : Rd L s v n xs) : Sng v := by obtain ⟨a, c, rfl, _⟩ := h.isSlice; infer_instance
theorem VP.front {P : Program} {fv : Value} {args : List Value} {L : Chunk} {Φ : Value → Chunk → Prop} (h : VP P fv args L (fun v L' => ∃ X L2, L' = X ++ L2 ∧ Φ v L2) noPanic) : VP P fv args L Φ noPanic := fun w0 w hs => by
 have key : ∀ e w', endR w0 (fun v L' => ∃ X L2, L' = X ++ L2 ∧ Φ v L2) noPanic e w' → endR w0 Φ noPanic e w' := fun e w' he => by
  cases e with
  | returned v =>
   obtain ⟨L', a, X, L2, rfl, b⟩ := he
   exact ⟨L2, a.drop (List.sublist_append_right ..), b⟩
  | panicked c => exact he
  | outgrown => exact he
 rcases h w0 w hs with ⟨f, first, cap, a, b, c⟩ | ⟨l, fn, tmps, asn, bo, a, b, c⟩
 ·exact .inl ⟨f, first, cap, a, b, c.mono key⟩
 ·exact .inr ⟨l, fn, tmps, asn, bo, a, b, RoundIn.mono c key⟩
section
variable {P : Program} {w0 : World} {rd : Option Nat} {n : Nat} {K : Post} {ρ : Env} {ds : List Deferred} {L R : Chunk} {l : List Oper} {ops : Array Oper} {ty : TypeId} {d : Nat} {pos : String} {after : Array Edge}
theorem yl_entry {x : Operand} {r m since c : Nat} {seen : Array Nat} {es : List MapEntry} {e : MapEntry} {q : IntKind} (hx : EvO ρ x (.pointer (some ⟨r, 0, none⟩))) (hin : InC L r (.mapIter (some m) since (seen.push e.born) c)) (hm : InC L m (.map es.toArray c)) (hk : KV q es c) (he : e ∈ es) :
  Yl P ρ L (.entry x) ty (.tuple #[e.key, e.val]) :=
 yl_of_run (fun c h => (by cases h)) fun w o ho _ hp => by
  have h1 := run_entry_at (P := P) w r m since seen es.toArray c e (hp _ _ hin.out) (hp _ _ hm.out) (by simpa using he) (by simpa using hk.births)
  unfold execOp
  simp only [ho, hx.out, Sem.run_bind, h1, Result.andThen_ok, Sem.run_pure]
theorem OW.entryE {x : Operand} {r m since c : Nat} {seen : Array Nat} {es : List MapEntry} {e : MapEntry} {q : IntKind} [hx : EvO ρ x (.pointer (some ⟨r, 0, none⟩))] [hin : InC L r (.mapIter (some m) since (seen.push e.born) c)] [hm : InC L m (.map es.toArray c)] (hk : KV q es c) (he : e ∈ es)
  (next : OW P w0 rd n ops K l (upd ρ d (.tuple #[e.key, e.val])) ds L) : OW P w0 rd n ops K (⟨some d, .entry x, ty, pos, after, none⟩ :: l) ρ ds L := OW.y (yl_entry hx hin hm hk he) next
theorem run_eqMapNil {w : World} (d : Nat) {t k e : TypeId} {p : Option Nat} (h : P.underlying t = some (.map k e)) : (Op.equalIn (d + 1) t (.map p) (.map none)).run P w = .ok p.isNone w := by
 cases p <;> simp [Op.equalIn, run_underlying h]
instance op1EqlNilMap {t yt k e : TypeId} {x y : Operand} {a : Option Nat} [ht : Und P t (.map k e)] [hx : EvO ρ x (.map a)] [hy : EvO ρ y (.map none)] : Op1 P ρ L (.binOp .eql t x y yt) ty (.bool a.isNone) :=
 ⟨yl_of_run (fun c h => (by cases h)) fun w o ho _ _ => by
  have h1 : (Op.equal t (.map a) (.map none)).run P w = .ok a.isNone w := run_eqMapNil 9999 ht.out
  unfold execOp
  simp [ho, hx.out, hy.out, eqGuard, binOp, h1]⟩
instance (priority := high) op1EqlSomePtr {t yt e : TypeId} {x y : Operand} {a : Addr} [ht : Und P t (.pointer e)] [hx : EvO ρ x (.pointer (some a))] [hy : EvO ρ y (.pointer none)] : Op1 P ρ L (.binOp .eql t x y yt) ty (.bool false) :=
 ⟨(op1EqlNilPtr (P := P) (ρ := ρ) (L := L) (ty := ty) (t := t) (yt := yt) (x := x) (y := y) (a := some a)).yl⟩
instance (priority := high) op1EqlSomeMap {t yt k e : TypeId} {x y : Operand} {a : Nat} [ht : Und P t (.map k e)] [hx : EvO ρ x (.map (some a))] [hy : EvO ρ y (.map none)] : Op1 P ρ L (.binOp .eql t x y yt) ty (.bool false) :=
 ⟨(op1EqlNilMap (P := P) (ρ := ρ) (L := L) (ty := ty) (t := t) (yt := yt) (x := x) (y := y) (a := some a)).yl⟩
instance {k e : TypeId} : NotIface (.map k e) := ⟨by simp⟩
theorem run_copyMap {w : World} {r c : Nat} {es : Array MapEntry} (t : TypeId) (hb : w.heap[r]? = some (.map es c)) :
  (Extern.MapsClone.clone #[.iface t (.map (some r))]).run P w = .ok (.iface t (.map (some w.heap.size))) (w.alloc (.map es c)) := by
 have hg : (getObj r).run P w = .ok (.map es c) w := by simp [getObj, Sem.run, hb]
 have e : Extern.MapsClone.clone #[.iface t (.map (some r))] = (getObj r >>= fun o => match o with
   | .map entries clock => (newObj (.map entries clock) >>= fun n => pure (.iface t (.map (some n))))
   | _ => stuck "maps.clone: a map expected") := rfl
 rw [e, Sem.run_bind, hg]
 simp [Result.andThen, newObj, Sem.run]
theorem ef_mapClone {f : FuncId} {fn : Func} {x y : Operand} {argTypes : Array TypeId} {t : TypeId} {m c : Nat} {es : List MapEntry} (hf : P.funcs[f]? = some fn) (h1 : (fn.name == "runtime.NumGoroutine") = false) (h2 : fn.body.isNone = true) (h3 : Extern.findNext fn = none) (h4 : Extern.find fn = some Extern.MapsClone.clone)
  (hx : ev ρ x = .func (.func f) #[] #[]) (hy : EvO ρ y (.iface t (.map (some m)))) (hin : InC L m (.map es.toArray c)) :
  Ef P ρ L (.call { callee := .value x, args := #[y], argTypes }) ty (fun v L' => ∃ b, v = .iface t (.map (some b)) ∧ L' = (b, .map es.toArray c) :: L) noPanic := by
 refine ⟨fun c h => (by cases h), fun w0 w rd a next Q o ho hty ha hst hn _ => ?_⟩
 have hr : (execOp (ev ρ) o).run P w = .ok (.value (.iface t (.map (some w.heap.size)))) (w.alloc (.map es.toArray c)) := by
  unfold execOp
  simp only [ho, resolve, hx, Deferred.ofValue, Sem.run_bind, Sem.run_pure, Result.andThen_ok, invoke, List.map_toArray, List.map_cons, List.map_nil, hy.out, Array.empty_append, Array.append_empty]
  rw [run_callFunc_extern hf h1 h2 h3 h4, run_copyMap t (hst.pn _ _ hin.out)]
  simp [Result.andThen]
 rw [hr]
 exact hn _ _ _ (hst.alloc _) ⟨_, rfl, rfl⟩
theorem OW.mapClone {f : FuncId} {fn : Func} {x y : Operand} {argTypes : Array TypeId} {t : TypeId} {m c : Nat} {es : List MapEntry} (hf : P.funcs[f]? = some fn) (h1 : (fn.name == "runtime.NumGoroutine") = false) (h2 : fn.body.isNone = true) (h3 : Extern.findNext fn = none) (h4 : Extern.find fn = some Extern.MapsClone.clone)
  [hx : EvO ρ x (.func (.func f) #[] #[])] [hy : EvO ρ y (.iface t (.map (some m)))] [hin : InC L m (.map es.toArray c)]
  (next : ∀ b, OW P w0 rd n ops K l (upd ρ d (.iface t (.map (some b)))) ds ((b, .map es.toArray c) :: L)) : OW P w0 rd n ops K (⟨some d, .call { callee := .value x, args := #[y], argTypes }, ty, pos, after, none⟩ :: l) ρ ds L :=
 OW.eff (ef_mapClone hf h1 h2 h3 h4 hx.out hy hin) (fun v L' ⟨b, e1, e2⟩ => by subst e1 e2; exact next b) (fun _ _ h => h.elim)
theorem OW.lookOk {t kt et : TypeId} {x y : Operand} {k k' : IntKind} {j : Int} {m c : Nat} {es : List MapEntry} {z : Value} [ht : Und P t (.map kt et)] [hk : Und P kt (.int k')] [hz : Zer P et z] [hx : EvO ρ x (.map (some m))] [hy : EvO ρ y (.int k j)] [hin : InC L m (.map es.toArray c)] (hes : keysI k es)
  (hs : ∀ v, findI es j = some v → OW P w0 rd n ops K l (upd ρ d (.tuple #[v, .bool true])) ds L) (hn : findI es j = none → OW P w0 rd n ops K l (upd ρ d (.tuple #[z, .bool false])) ds L) :
  OW P w0 rd n ops K (⟨some d, .lookup t x y true, ty, pos, after, none⟩ :: l) ρ ds L := by
 have h := yl_lookupOk (P := P) (ty := ty) ht hk hz hx hy hin hes
 cases hf : findI es j with
 | none => rw [hf] at h; exact OW.y h (hn hf)
 | some v => rw [hf] at h; exact OW.y h (hs v hf)
theorem OW.mapNew {t kt et : TypeId} {x y z : Operand} {k k' : IntKind} {j : Int} {m c : Nat} {es : List MapEntry} {L' : Chunk} {u : Value} [ht : Und P t (.map kt et)] [hk : Und P kt (.int k')] [hx : EvO ρ x (.map (some m))] [hy : EvO ρ y (.int k j)] [hz : EvO ρ z u] [hin : InC L m (.map es.toArray c)] (hes : KV k es c) (hno : findI es j = none)
  [hu : UpdC L m (.map (es ++ [MapEntry.mk (.int k j) u c]).toArray (c + 1)) L'] (next : OW P w0 rd n ops K l ρ ds L') : OW P w0 rd n ops K (⟨none, .mapUpdate t x y z, ty, pos, after, none⟩ :: l) ρ ds L := by
 have e : putE k j u es c = (es ++ [MapEntry.mk (.int k j) u c], c + 1) := by unfold putE; rw [hno]; rfl
 have hu' : UpdC L m (.map (putE k j u es c).1.toArray (putE k j u es c).2) L' := by rw [e]; exact hu
 exact OW.mapPut hes next
theorem OW.mapOld {t kt et : TypeId} {x y z : Operand} {k k' : IntKind} {j : Int} {m c : Nat} {es : List MapEntry} {L' : Chunk} {u v0 : Value} [ht : Und P t (.map kt et)] [hk : Und P kt (.int k')] [hx : EvO ρ x (.map (some m))] [hy : EvO ρ y (.int k j)] [hz : EvO ρ z u] [hin : InC L m (.map es.toArray c)] (hes : KV k es c) (hso : findI es j = some v0)
  [hu : UpdC L m (.map (setE k j u es).toArray c) L'] (next : OW P w0 rd n ops K l ρ ds L') : OW P w0 rd n ops K (⟨none, .mapUpdate t x y z, ty, pos, after, none⟩ :: l) ρ ds L := by
 have e : putE k j u es c = (setE k j u es, c) := by unfold putE; rw [hso]; rfl
 have hu' : UpdC L m (.map (putE k j u es c).1.toArray (putE k j u es c).2) L' := by rw [e]; exact hu
 exact OW.mapPut hes next
end
end Go.Pw

namespace Go.Pw
section
variable {P : Program} {w0 : World} {rd : Option Nat} {n : Nat} {K : Post} {ρ : Env} {ds : List Deferred} {L R : Chunk} {l : List Oper} {ops : Array Oper} {ty : TypeId} {d : Nat} {pos : String} {after : Array Edge}
theorem run_firstCells_part {w : World} {n m : Nat} {u : Value} {xs : List Value} (h : Rd L 1 u m xs) (hn : n ≤ m) (hp : Pn w L) : (Builtin.firstCells 1 n u).run P w = .ok (xs.take n).toArray w := by
 rcases h.2 with ⟨⟨a, cap, rfl⟩, rfl⟩ | ⟨b, k, cap, c, e, fr, rfl, h1, h2, h3, _⟩
 ·obtain rfl : n = 0 := by omega
  cases a with
  | none => simp [Builtin.firstCells]
  | some a => simp only [Builtin.firstCells, Nat.zero_mul, run_loadCells0]; simp
 ·simp only [Builtin.firstCells]
  rw [run_loadCells_rd (hp _ _ h1) (by omega)]
  have : ((c.toList.drop k).take (n * 1)) = xs.take n := by
   rw [← h3, List.take_take]
   congr 1
   omega
  rw [this]
theorem ef_copy {t t2 e : TypeId} {x y : Operand} {b k nd cd m : Nat} {l0 : List Value} {u : Value} {xs : List Value} {L' : Chunk} (ht : Und P t (.slice e)) (hz : Siz P e 1) (hx : EvO ρ x (.slice (some ⟨b, k, none⟩) nd cd)) (hy : EvO ρ y u) (hrd : Rd L 1 u m xs)
  (hb : InC L b (.cells l0.toArray e (0, 0))) (hsng : ∀ v ∈ xs, Sng v) (hle : k + nd ≤ l0.length) (hu : UpdC L b (.cells (l0.take k ++ xs.take (min m nd) ++ l0.drop (k + min m nd)).toArray e (0, 0)) L') :
  Ef P ρ L (.call { callee := .builtin .copy, args := #[x, y], argTypes := #[t, t2] }) ty (fun v L'' => v = .int .i64 (min m nd : Nat) ∧ L'' = L') noPanic := by
 refine ⟨fun c h => (by cases h), fun w0 w rd a next Q o ho hty ha hst hn _ => ?_⟩
 have hlen := lenOf_rd (P := P) (w := w) hrd
 have hcells := run_firstCells_part (P := P) hrd (Nat.min_le_left m nd) hst.pn
 have hxl := hrd.1
 have htl : (xs.take (min m nd)).length = min m nd := by rw [List.length_take]; omega
 have hu' : UpdC L b (.cells (l0.toArray.toList.take (k + 0) ++ xs.take (min m nd) ++ l0.toArray.toList.drop (k + 0 + (xs.take (min m nd)).length)).toArray e (0, 0)) L' := by
  simp only [Nat.add_zero, htl]; exact hu
 obtain ⟨w', hr, hs⟩ := run_storeCells_st (P := P) (k := k) (xs.take (min m nd)) 0 w l0.toArray L L' (fun v hv => hsng v (List.mem_of_mem_take hv)) hst hb (by rw [htl]; simp; omega) hu'
 have hrun : (execOp (ev ρ) o).run P w = .ok (.value (.int .i64 (min m nd : Nat))) w' := by
  unfold execOp
  have hnm : Nat.min m nd = min m nd := rfl
  simp only [ho, resolve, invoke, builtin, Sem.run_bind, Sem.run_pure, Result.andThen_ok, List.map_toArray, List.map_cons, List.map_nil, hx.out, hy.out]
  simp [Builtin.copy_, run_underlying ht.out, hlen, hz.out, hnm, hcells, hr, goInt]
 rw [hrun]
 exact hn _ _ L' hs ⟨rfl, rfl⟩
theorem OW.copy {t t2 e : TypeId} {x y : Operand} {b k nd cd m : Nat} {l0 : List Value} {u : Value} {xs : List Value} {L' : Chunk} [ht : Und P t (.slice e)] [hz : Siz P e 1] [hx : EvO ρ x (.slice (some ⟨b, k, none⟩) nd cd)] [hy : EvO ρ y u] (hrd : Rd L 1 u m xs)
  [hb : InC L b (.cells l0.toArray e (0, 0))] (hsng : ∀ v ∈ xs, Sng v) (hle : k + nd ≤ l0.length) [hu : UpdC L b (.cells (l0.take k ++ xs.take (min m nd) ++ l0.drop (k + min m nd)).toArray e (0, 0)) L']
  (next : OW P w0 rd n ops K l (upd ρ d (.int .i64 (min m nd : Nat))) ds L') : OW P w0 rd n ops K (⟨some d, .call { callee := .builtin .copy, args := #[x, y], argTypes := #[t, t2] }, ty, pos, after, none⟩ :: l) ρ ds L :=
 OW.eff (ef_copy ht hz hx hy hrd hb hsng hle hu) (fun v L'' ⟨h1, h2⟩ => by subst h1 h2; exact next) (fun _ _ h => h.elim)
theorem RW.copy {t t2 e : TypeId} {x y : Operand} {b k nd cd m : Nat} {l0 : List Value} {u : Value} {xs : List Value} {L' : Chunk} {g : Option (Nat × Bool)} [hg : GdT ops ρ g] [ht : Und P t (.slice e)] [hz : Siz P e 1] [hx : EvO ρ x (.slice (some ⟨b, k, none⟩) nd cd)] [hy : EvO ρ y u] (hrd : Rd L 1 u m xs)
  [hb : InC L b (.cells l0.toArray e (0, 0))] (hsng : ∀ v ∈ xs, Sng v) (hle : k + nd ≤ l0.length) [hu : UpdC L b (.cells (l0.take k ++ xs.take (min m nd) ++ l0.drop (k + min m nd)).toArray e (0, 0)) L']
  (next : ∃ R', (∀ p ∈ R, p ∈ R') ∧ (∀ p ∈ R', p ∈ L') ∧ RW P w0 rd n ops K l R' (upd ρ d (.int .i64 (min m nd : Nat))) ds L') : RW P w0 rd n ops K (⟨some d, .call { callee := .builtin .copy, args := #[x, y], argTypes := #[t, t2] }, ty, pos, after, g⟩ :: l) R ρ ds L :=
 RW.eff hg.out (by rfl) (ef_copy ht hz hx hy hrd hb hsng hle hu) (fun v L'' ⟨h1, h2⟩ => by subst h1 h2; exact next) (fun _ _ h => h.elim)
end
end Go.Pw

namespace Go.Pw
def flR {α : Type} (f : α → List Value) (es : List α) : List Value := (es.map f).flatten
section
variable {α : Type} {f : α → List Value} {s : Nat}
theorem flR_length (hf : ∀ a, (f a).length = s) : ∀ es : List α, (flR f es).length = es.length * s
 | [] => by simp [flR]
 | a :: es => by
  have := flR_length hf es
  simp only [flR, List.map_cons, List.flatten_cons, List.length_append, List.length_cons, Nat.add_mul, hf] at this ⊢
  omega
theorem flR_append (a b : List α) : flR f (a ++ b) = flR f a ++ flR f b := by simp [flR]
theorem flR_one (a : α) : flR f [a] = f a := by simp [flR]
theorem flR_split (hf : ∀ a, (f a).length = s) {es : List α} {i : Nat} (h : i < es.length) : flR f es = flR f (es.take i) ++ (f es[i] ++ flR f (es.drop (i + 1))) ∧ (flR f (es.take i)).length = i * s := by
 refine ⟨?_, by rw [flR_length hf, List.length_take, Nat.min_eq_left (Nat.le_of_lt h)]⟩
 have e : es = es.take i ++ ([es[i]] ++ es.drop (i + 1)) := by
  rw [List.singleton_append, ← List.drop_eq_getElem_cons h, List.take_append_drop]
 have e2 := congrArg (flR f) e
 rw [flR_append, flR_append, flR_one] at e2
 exact e2
theorem flR_cut (hf : ∀ a, (f a).length = s) {es : List α} {i k : Nat} {pre rest : List Value} (hk : pre.length = k) (h : i < es.length) : CutL (pre ++ (flR f es ++ rest)) (k + i * s) s (f es[i]) := by
 obtain ⟨h1, h2⟩ := flR_split hf h
 have h3 := hf es[i]
 refine ⟨?_, ?_⟩
 ·rw [h1]; simp only [List.length_append]; omega
 ·rw [h1]
  have e : pre ++ ((flR f (es.take i) ++ (f es[i] ++ flR f (es.drop (i + 1)))) ++ rest) = (pre ++ flR f (es.take i)) ++ (f es[i] ++ (flR f (es.drop (i + 1)) ++ rest)) := by simp
  have hl : (pre ++ flR f (es.take i)).length = k + i * s := by rw [List.length_append, hk, h2]
  rw [e, ← hl, List.drop_left, List.take_append_of_le_length (by omega), List.take_of_length_le (by omega)]
theorem flR_put (hf : ∀ a, (f a).length = s) {es : List α} {i k : Nat} {pre rest : List Value} (hk : pre.length = k) (h : i < es.length) (a : α) : PutL (pre ++ (flR f es ++ rest)) (k + i * s) (f a) (pre ++ (flR f (es.set i a) ++ rest)) := by
 obtain ⟨h1, h2⟩ := flR_split hf h
 have h3 := hf es[i]
 have h4 := hf a
 have e : pre ++ (flR f es ++ rest) = (pre ++ flR f (es.take i)) ++ (f es[i] ++ (flR f (es.drop (i + 1)) ++ rest)) := by rw [h1]; simp
 have hl : (pre ++ flR f (es.take i)).length = k + i * s := by rw [List.length_append, hk, h2]
 have e2 : flR f (es.set i a) = flR f (es.take i) ++ (f a ++ flR f (es.drop (i + 1))) := by
  rw [List.set_eq_take_append_cons_drop, if_pos h]
  simp [flR]
 refine ⟨by rw [e]; simp only [List.length_append] at hl ⊢; omega, ?_⟩
 rw [e, ← hl, List.take_left, ← List.drop_drop, List.drop_left, h4, ← h3, List.drop_left, e2]
 simp
theorem flR_get (hf : ∀ a, (f a).length = s) {es : List α} {i : Nat} (h : i < es.length) : ((flR f es).drop (i * s)).take s = f es[i] := by
 have := (flR_cut (pre := []) (rest := []) (k := 0) hf rfl h).out.2
 simpa using this
theorem flR_putZ (hf : ∀ a, (f a).length = s) {st : List α} {i k : Nat} {pre rest Z : List Value} (hk : pre.length = k) (h : i ≤ st.length) (hz : Z.length = (st.length - i) * s) : PutL (pre ++ (flR f st ++ rest)) (k + i * s) Z (pre ++ (flR f (st.take i) ++ (Z ++ rest))) := by
 have e1 : flR f st = flR f (st.take i) ++ flR f (st.drop i) := by rw [← flR_append, List.take_append_drop]
 have h2 : (flR f (st.take i)).length = i * s := by rw [flR_length hf, List.length_take, Nat.min_eq_left h]
 have h3 : (flR f (st.drop i)).length = Z.length := by rw [flR_length hf, List.length_drop, hz]
 have hl : (pre ++ flR f (st.take i)).length = k + i * s := by rw [List.length_append, hk, h2]
 have e : pre ++ (flR f st ++ rest) = (pre ++ flR f (st.take i)) ++ (flR f (st.drop i) ++ rest) := by rw [e1]; simp
 refine ⟨by rw [e]; simp only [List.length_append] at hl ⊢; omega, ?_⟩
 rw [e, ← hl, List.take_left, ← List.drop_drop, List.drop_left, ← h3, List.drop_left]
 simp
theorem flR_rd (hf : ∀ a, (f a).length = s) {L : Chunk} {b k cap : Nat} {e : TypeId} {fr : Nat × Nat} {es : List α} {pre rest : List Value} (hk : pre.length = k) (h : (b, .cells (pre ++ (flR f es ++ rest)).toArray e fr) ∈ L) (hc : es.length ≤ cap) :
  Rd L s (.slice (some ⟨b, k, none⟩) es.length cap) es.length (flR f es) := by
 have hl := flR_length hf es
 refine ⟨hl, .inr ⟨b, k, cap, _, e, fr, rfl, h, ?_, ?_, hc⟩⟩
 ·simp; omega
 ·rw [List.toList_toArray, ← hk, List.drop_left, ← hl, List.take_left]
end
section
variable {P : Program} {w0 : World} {rd : Option Nat} {n : Nat} {K : Post} {ρ : Env} {ds : List Deferred} {L R : Chunk} {l : List Oper} {ops : Array Oper} {ty : TypeId} {pos : String} {after : Array Edge}
theorem sng_zeroCells {zs : List Value} (h : SngL zs) (m : Nat) : ∀ v ∈ (Builtin.zeroCells zs.toArray m).toList, Sng v := by
 intro v hv
 simp only [Builtin.zeroCells, Array.toList_map, List.mem_map, Array.toList_range, List.mem_range] at hv
 obtain ⟨i, hi, rfl⟩ := hv
 have hz : zs.toArray.size ≠ 0 := by intro h0; rw [h0] at hi; omega
 have hlt : i % zs.toArray.size < zs.toArray.size := Nat.mod_lt _ (Nat.pos_of_ne_zero hz)
 rw [getElem!_pos zs.toArray _ hlt]
 exact h.out _ (by simp)
theorem ef_clear {t e et : TypeId} {x : Operand} {b k m c : Nat} {lc lc' zs : List Value} {z : Value} {L' : Chunk} (ht : Und P t (.slice e)) (hz : Zer P e z) (hzc : CellsL z zs) (hsng : SngL zs)
  (hx : EvO ρ x (.slice (some ⟨b, k, none⟩) m c)) (hm : m ≠ 0) (hb : InC L b (.cells lc.toArray et (0, 0))) (hp : PutL lc k (Builtin.zeroCells zs.toArray m).toList lc') (hu : UpdC L b (.cells lc'.toArray et (0, 0)) L') :
  Ef P ρ L (.call { callee := .builtin .clear, args := #[x], argTypes := #[t] }) ty (fun v L'' => v = .tuple #[] ∧ L'' = L') noPanic := by
 refine ⟨fun c h => (by cases h), fun w0 w rd a next Q o ho hty ha hst hn _ => ?_⟩
 have h1 := hp.out.1
 have h2 := hp.out.2
 obtain ⟨w', hr, hs⟩ := run_storeCells_st (P := P) (k := k) _ 0 w lc.toArray L L' (sng_zeroCells hsng m) hst hb (by simpa using h1) (by rw [show lc.toArray.toList = lc from rfl, Nat.add_zero, h2]; exact hu)
 have hrun : (execOp (ev ρ) o).run P w = .ok (.value (.tuple #[])) w' := by
  unfold execOp
  obtain ⟨q, rfl⟩ : ∃ q, m = q + 1 := ⟨m - 1, by omega⟩
  simp only [ho, resolve, invoke, builtin, Sem.run_bind, Sem.run_pure, Result.andThen_ok, List.map_toArray, List.map_cons, List.map_nil, hx.out]
  simp [Builtin.clear_, run_underlying ht.out, hz.out, hzc.out, hr]
 rw [hrun]
 exact hn _ _ L' hs ⟨rfl, rfl⟩
theorem OW.clear {t e et : TypeId} {x : Operand} {b k m c : Nat} {lc lc' zs : List Value} {z : Value} {L' : Chunk} [ht : Und P t (.slice e)] [hz : Zer P e z] [hzc : CellsL z zs] [hsng : SngL zs]
  [hx : EvO ρ x (.slice (some ⟨b, k, none⟩) m c)] (hm : m ≠ 0) [hb : InC L b (.cells lc.toArray et (0, 0))] (hp : PutL lc k (Builtin.zeroCells zs.toArray m).toList lc') [hu : UpdC L b (.cells lc'.toArray et (0, 0)) L']
  (next : OW P w0 rd n ops K l ρ ds L') : OW P w0 rd n ops K (⟨none, .call { callee := .builtin .clear, args := #[x], argTypes := #[t] }, ty, pos, after, none⟩ :: l) ρ ds L :=
 OW.eff (ef_clear ht hz hzc hsng hx hm hb hp hu) (fun v L'' ⟨h1, h2⟩ => by subst h1 h2; exact next) (fun _ _ h => h.elim)
end
end Go.Pw

namespace Go.Pw
section
variable {P : Program} {w0 : World} {rd : Option Nat} {n : Nat} {K : Post} {ρ : Env} {ds : List Deferred} {L R : Chunk} {l : List Oper} {ops : Array Oper} {ty : TypeId} {d : Nat} {pos : String} {after : Array Edge}
theorem yl_sl3 {t e : TypeId} {x hi mx : Operand} {m h' s c : Nat} {kk k2 : IntKind} {j : Int} {b k : Nat} (ht : Und P t (.slice e)) (hz : Siz P e s) (hx : EvO ρ x (.slice (some ⟨b, k, none⟩) m c)) (hh : EvO ρ hi (.int kk j)) (hm : EvO ρ mx (.int k2 j)) (hj : ToN j h') (h0 : 0 ≤ j ∧ j ≤ c) :
  Yl P ρ L (.slice t x none (some hi) (some mx)) ty (.slice (some ⟨b, k, none⟩) h' h') :=
 yl_of_run (fun c h => (by cases h)) fun w o ho _ _ => by
  have hj' := hj.out
  have h1 : ¬ j < 0 := by omega
  have h2 : ¬ (c : Int) < j := by omega
  have h3 : j.toNat ≤ c := by omega
  unfold execOp
  simp [ho, hx.out, hh.out, hm.out, Instr.sliceAt, Instr.slice, Instr.sliceBounds, Instr.sliceBound, asIntOf, run_underlying ht.out, h0.1, h1, h2, h3, hz.out, hj', Addr.add]
  rw [if_pos h0.2, if_pos (by omega)]
theorem OW.sl3 {t e : TypeId} {x hi mx : Operand} {m h' s c : Nat} {kk k2 : IntKind} {j : Int} {b k : Nat} [ht : Und P t (.slice e)] [hz : Siz P e s] [hx : EvO ρ x (.slice (some ⟨b, k, none⟩) m c)] [hh : EvO ρ hi (.int kk j)] [hm : EvO ρ mx (.int k2 j)] [hj : ToN j h'] (h0 : 0 ≤ j ∧ j ≤ c)
  (next : OW P w0 rd n ops K l (upd ρ d (.slice (some ⟨b, k, none⟩) h' h')) ds L) : OW P w0 rd n ops K (⟨some d, .slice t x none (some hi) (some mx), ty, pos, after, none⟩ :: l) ρ ds L := OW.val (yl_sl3 ht hz hx hh hm hj h0) next
theorem RW.sl3 {t e : TypeId} {x hi mx : Operand} {m h' s c : Nat} {kk k2 : IntKind} {j : Int} {b k : Nat} {g : Option (Nat × Bool)} [hg : GdT ops ρ g] [ht : Und P t (.slice e)] [hz : Siz P e s] [hx : EvO ρ x (.slice (some ⟨b, k, none⟩) m c)] [hh : EvO ρ hi (.int kk j)] [hm : EvO ρ mx (.int k2 j)] [hj : ToN j h'] (h0 : 0 ≤ j ∧ j ≤ c)
  (next : RW P w0 rd n ops K l R (upd ρ d (.slice (some ⟨b, k, none⟩) h' h')) ds L) : RW P w0 rd n ops K (⟨some d, .slice t x none (some hi) (some mx), ty, pos, after, g⟩ :: l) R ρ ds L := RW.p' hg.out rfl (yl_sl3 ht hz hx hh hm hj h0) next
theorem ef_entryNew {t kt et : TypeId} {x y : Operand} {k k' : IntKind} {j : Int} {m c : Nat} {es : List MapEntry} {z : Value} {L' : Chunk} (ht : Und P t (.map kt et)) (hk : Und P kt (.int k')) (hz : Zer P et z) (hx : EvO ρ x (.map (some m))) (hy : EvO ρ y (.int k j)) (hin : InC L m (.map es.toArray c)) (hes : KV k es c) (hno : findI es j = none)
  (hu : UpdC L m (.map (es ++ [MapEntry.mk (.int k j) z c]).toArray (c + 1)) L') : Ef P ρ L (.mapEntry t x y) ty (fun v L'' => v = .tuple #[z, .int .i64 (c : Int)] ∧ L'' = L') noPanic := by
 refine ⟨fun c h => (by cases h), fun w0 w rd a next Q o ho hty ha hst hn _ => ?_⟩
 have hob := run_getMap (P := P) hst.pn hin
 have hck : ∀ b, (Instr.checkKey b 10000 kt (.int k j)).run P w = .ok () w := fun b => run_checkInt 9999 b hk.out
 have h1 := findNow_idx (k := k) (k' := k') (j := j) es 0 hes.keys
 have hi : idxI j es = none := by
  rw [findI_idx hes.keys] at hno
  cases h : idxI j es with
  | none => rfl
  | some p => rw [h] at hno; cases hno
 rw [hi] at h1
 have hr : (execOp (ev ρ) o).run P w = .ok (.value (.tuple #[z, .int .i64 (c : Int)])) (w.putObj m (.map (es ++ [MapEntry.mk (.int k j) z c]).toArray (c + 1))) := by
  unfold execOp
  simp only [ho, hx.out, hy.out]
  simp [Instr.mapEntry, run_underlying ht.out, hob, hck, Instr.findKey, run_underlying hk.out, h1, hz.out, setObj, Sem.run, World.putObj, hst.pn _ _ hin.out, goInt]
 rw [hr]
 exact hn _ _ L' (hst.put hin hu) ⟨rfl, rfl⟩
theorem RW.entryNew {t kt et : TypeId} {x y : Operand} {k k' : IntKind} {j : Int} {m c : Nat} {es : List MapEntry} {z : Value} {L' : Chunk} {g : Option (Nat × Bool)} [hg : GdT ops ρ g] [ht : Und P t (.map kt et)] [hk : Und P kt (.int k')] [hz : Zer P et z] [hx : EvO ρ x (.map (some m))] [hy : EvO ρ y (.int k j)] [hin : InC L m (.map es.toArray c)] (hes : KV k es c) (hno : findI es j = none)
  [hu : UpdC L m (.map (es ++ [MapEntry.mk (.int k j) z c]).toArray (c + 1)) L'] (next : ∃ R', (∀ p ∈ R, p ∈ R') ∧ (∀ p ∈ R', p ∈ L') ∧ RW P w0 rd n ops K l R' (upd ρ d (.tuple #[z, .int .i64 (c : Int)])) ds L') :
  RW P w0 rd n ops K (⟨some d, .mapEntry t x y, ty, pos, after, g⟩ :: l) R ρ ds L :=
 RW.eff hg.out (by rfl) (ef_entryNew ht hk hz hx hy hin hes hno hu) (fun v L'' ⟨h1, h2⟩ => by subst h1 h2; exact next) (fun _ _ h => h.elim)
theorem OW.entryNew {t kt et : TypeId} {x y : Operand} {k k' : IntKind} {j : Int} {m c : Nat} {es : List MapEntry} {z : Value} {L' : Chunk} [ht : Und P t (.map kt et)] [hk : Und P kt (.int k')] [hz : Zer P et z] [hx : EvO ρ x (.map (some m))] [hy : EvO ρ y (.int k j)] [hin : InC L m (.map es.toArray c)] (hes : KV k es c) (hno : findI es j = none)
  [hu : UpdC L m (.map (es ++ [MapEntry.mk (.int k j) z c]).toArray (c + 1)) L'] (next : OW P w0 rd n ops K l (upd ρ d (.tuple #[z, .int .i64 (c : Int)])) ds L') :
  OW P w0 rd n ops K (⟨some d, .mapEntry t x y, ty, pos, after, none⟩ :: l) ρ ds L :=
 OW.eff (ef_entryNew ht hk hz hx hy hin hes hno hu) (fun v L'' ⟨h1, h2⟩ => by subst h1 h2; exact next) (fun _ _ h => h.elim)
theorem findIdx_last {es : List MapEntry} {e : MapEntry} {c : Nat} (h : ∀ x ∈ es, x.born < c) (he : e.born = c) : (es ++ [e]).findIdx? (fun x => (x.born : Int) == (c : Int)) = some es.length := by
 induction es with
 | nil => simp [List.findIdx?_cons, he]
 | cons x es ih =>
  have h1 := h x (List.mem_cons_self ..)
  rw [List.cons_append, List.findIdx?_cons, ih fun y hy => h y (List.mem_cons_of_mem _ hy)]
  have : ((x.born : Int) == (c : Int)) = false := by simp; omega
  simp [this]
theorem modify_last {α : Type} (f : α → α) (e : α) : ∀ es : List α, (es ++ [e]).modify es.length f = es ++ [f e]
 | [] => rfl
 | x :: es => by
  show (x :: (es ++ [e])).modify (es.length + 1) f = _
  rw [List.modify_succ_cons, modify_last f e es]; rfl
theorem opuEntry {t : TypeId} {x y z : Operand} {m c c' : Nat} {es : List MapEntry} {key w v : Value} {L' : Chunk} (hx : EvO ρ x (.map (some m))) (hy : EvO ρ y (.int .i64 (c : Int))) (hz : EvO ρ z v) (hin : InC L m (.map (es ++ [MapEntry.mk key w c]).toArray c')) (ho : ∀ e ∈ es, e.born < c)
  (hu : UpdC L m (.map (es ++ [MapEntry.mk key v c]).toArray c') L') : OpU P ρ L (.entryStore t x y z) ty L' :=
 ⟨fun c h => (by cases h), fun w0 w' o hoo hty hst => by
  have hob := run_getMap (P := P) hst.pn hin
  have hfi : (es ++ [MapEntry.mk key w c]).toArray.findIdx? (fun e => (e.born : Int) == (c : Int)) = some es.length := by
   rw [List.findIdx?_toArray]; exact findIdx_last ho rfl
  have hmod : (es ++ [MapEntry.mk key w c]).toArray.modify es.length (fun e => { e with val := v }) = (es ++ [MapEntry.mk key v c]).toArray := by
   apply Array.ext'
   rw [Array.toList_modify]
   exact modify_last _ _ es
  refine ⟨w'.putObj m (.map (es ++ [MapEntry.mk key v c]).toArray c'), ?_, hst.put hin hu⟩
  unfold execOp
  simp only [hoo, hx.out, hy.out, hz.out]
  simp [Instr.entryStore, hob, asInt, asIntOf, hfi, hmod, setObj, Sem.run, World.putObj, hst.pn _ _ hin.out]⟩
end
end Go.Pw

namespace Go.Pw
theorem nth_cut {l c : List Value} {k n : Nat} {v : Value} (j : Nat) (h : CutL l k n c) (hv : c[j]? = some v) : NthL l (k + j) v := ⟨by
 have h2 := h.out.2
 rw [← h2, List.getElem?_take] at hv
 split at hv
 ·rwa [List.getElem?_drop] at hv
 ·cases hv⟩
def RowG (e : TypeId) (s : Nat) (N : Chunk) (v : Value) (n : Nat) (xs : List Value) : Prop :=
 xs.length = n * s ∧ ((v = .slice none 0 0 ∧ n = 0 ∧ N = []) ∨
  ∃ b cap rest, v = .slice (some ⟨b, 0, none⟩) n cap ∧ N = [(b, .cells (xs ++ rest).toArray e (0, 0))] ∧ n ≤ cap ∧ cap * s ≤ (xs ++ rest).length)
theorem RowG.rd {e : TypeId} {s n : Nat} {N : Chunk} {v : Value} {xs : List Value} (h : RowG e s N v n xs) : Rd N s v n xs := by
 refine ⟨h.1, ?_⟩
 rcases h.2 with ⟨h1, h2, h3⟩ | ⟨b, cap, rest, h1, h2, h3, h4⟩
 ·exact .inl ⟨⟨_, _, h1⟩, h2⟩
 ·refine .inr ⟨b, 0, cap, _, e, (0, 0), h1, by rw [h2]; exact List.mem_cons_self .., ?_, ?_, h3⟩
  ·have := h.1; simp; omega
  ·simp [← h.1]
theorem RowG.nil (e : TypeId) (s : Nat) : RowG e s [] (.slice none 0 0) 0 [] := ⟨by simp, .inl ⟨rfl, rfl, rfl⟩⟩
theorem RowG.of {e : TypeId} {s n : Nat} {N : Chunk} {v : Value} {xs : List Value} (h : Row e s N v n xs) : RowG e s N v n xs :=
 ⟨h.1, h.2.imp id fun ⟨b, cap, rest, h1, h2, h3, h4⟩ => ⟨b, cap, rest, h1, h2, h3, by omega⟩⟩
section
variable {P : Program} {ρ : Env} {L : Chunk} {ty : TypeId}
theorem ef_appendG {t t2 e : TypeId} {s bytes n m : Nat} {x y : Operand} {v u : Value} {xs news : List Value} {N : Chunk} {C : Chunk → Chunk} {z : Value} {zs : List Value}
  (ht : Und P t (.slice e)) (ht2 : Und P t2 (.slice e)) (hz : Siz P e s) (hzv : Zer P e z) (hzc : CellsL z zs) (hzl : zs.length = s) (hby : Byt P e bytes) (hbp : 0 < bytes)
  (hx : EvO ρ x v) (hy : EvO ρ y u) (hrow : RowG e s N v n xs) (hat : At L N C) (hrd : Rd L s u m news) (hsng : ∀ v ∈ news, Sng v) (hfit : (n + m) * bytes ≤ 140737488355328) :
  Ef P ρ L (.call { callee := .builtin .append, args := #[x, y], argTypes := #[t, t2] }) ty (fun v' L' => ∃ N', L' = C N' ∧ RowG e s N' v' (n + m) (xs ++ news)) noPanic := by
 refine ⟨fun c h => (by cases h), fun w0 w rd a next Q o ho hty ha hst hn _ => ?_⟩
 have hnm : n + m ≤ 140737488355328 := Nat.le_trans (Nat.le_mul_of_pos_right _ hbp) hfit
 have hlen : (xs ++ news).length = (n + m) * s := by rw [List.length_append, hrow.1, hrd.1, Nat.add_mul]
 obtain ⟨i, hi, hib⟩ := hby.out
 have hti : ∀ w, (typeInfo e).run P w = .ok i w := fun w => by simp [typeInfo, hi]
 obtain ⟨A, B, hL, hC⟩ := hat.out
 have hunfold : ∀ r, (Builtin.append_ #[t, t2] o.type #[v, u]).run P w = r → (execOp (ev ρ) o).run P w = r.andThen fun v w' => .ok (.value v) w' := fun r hr => by
  unfold execOp
  simp only [ho, resolve, invoke, builtin, Sem.run_bind, Sem.run_pure, Result.andThen_ok, List.map_toArray, List.map_cons, List.map_nil, hx.out, hy.out, hr]
 have hlenu := lenOf_rd (P := P) (w := w) hrd
 have hpd : Pn w.drew L := hst.pn
 have hcells := run_firstCells_rd (P := P) hrd hst.pn
 have hcellsD := run_firstCells_rd (P := P) hrd hpd
 have hNL : ∀ p ∈ N, p ∈ L := fun p hp => by rw [hL]; exact List.mem_append_left _ (List.mem_append_right _ hp)
 have holdD := run_firstCells_rd (P := P) (hrow.rd.mono hNL) hpd
 have grown : ∀ (cap : Nat) (base : Option Addr), v = .slice base n cap → cap < n + m →
   ∃ v' w' N', (Builtin.append_ #[t, t2] o.type #[v, u]).run P w = .ok v' w' ∧ St w0 w' (C N') ∧ RowG e s N' v' (n + m) (xs ++ news) := fun cap base hv hcap => by
  subst hv
  have hn1 : ¬ (n + m ≤ cap) := by omega
  have hn2 : ¬ ((9223372036854775807 : Int) < (n : Int) + (m : Int) ∧ i.bytes = 0) := by omega
  have hn3 : ¬ (281474976710656 < Builtin.nextslicecap (n + m) cap * i.bytes) := by
   have := growslice_fits hcap (by rw [hib]; exact hfit : (n + m) * i.bytes ≤ 140737488355328); omega
  have hK : n + m ≤ grownCap w (n + m) cap e := grownCap_ge w _ _ _
  have hrun : (Builtin.append_ #[t, t2] o.type #[.slice base n cap, u]).run P w = .ok (.slice (some ⟨w.heap.size, 0, none⟩) (n + m) (grownCap w (n + m) cap e))
    (w.drew.alloc (.cells (xs.toArray ++ (news.toArray ++ Builtin.zeroCells z.cells (grownCap w (n + m) cap e - (n + m)))) e)) := by
   unfold Builtin.append_
   simp [run_underlying ht.out, run_underlying ht2.out, hz.out, hlenu, hn1, hti, hn2, hn3, choose, Sem.run, Question.forced, askRoom, newRow, newObj]
   simp [holdD, hcellsD, hzv.out, grownCap]
  refine ⟨_, _, [(w.heap.size, _)], hrun, ?_, hlen, .inr ⟨w.heap.size, grownCap w (n + m) cap e, (Builtin.zeroCells z.cells (grownCap w (n + m) cap e - (n + m))).toList, rfl, rfl, hK, ?_⟩⟩
  ·rw [hC]
   rw [hL] at hst
   refine St.swap (w := w) hst rfl rfl (by simp) (fun k x hk => ?_) (fun k hk => .inr (by simp at hk; omega)) (fun k hk _ => ?_)
   ·simp at hk
    obtain ⟨rfl, rfl⟩ := hk
    show (w.heap.push _)[w.heap.size]? = _
    simp
   ·show (w.heap.push _)[k]? = _
    rw [Array.getElem?_push, if_neg (by omega)]
  ·refine Nat.le_of_eq (Eq.symm ?_)
   rw [List.length_append, hlen, hzc.out, Array.length_toList, length_zeroCells, hzl, ← Nat.add_mul]
   congr 1
   omega
 have fin : ∀ v' w' N', (Builtin.append_ #[t, t2] o.type #[v, u]).run P w = .ok v' w' → St w0 w' (C N') → RowG e s N' v' (n + m) (xs ++ news) → Oper.uponIn (fence rd) 0 P o a next Q ((execOp (ev ρ) o).run P w) := fun v' w' N' h1 h2 h3 => by
  rw [hunfold _ h1]
  exact hn v' w' (C N') h2 ⟨N', rfl, h3⟩
 rcases hrow.2 with ⟨rfl, rfl, rfl⟩ | ⟨b, cap, rest, rfl, hN, hnc, hcl⟩
 ·by_cases hm : m = 0
  ·subst hm
   have hnews : news = [] := List.eq_nil_of_length_eq_zero (by simpa using hrd.1)
   have hxs : xs = [] := List.eq_nil_of_length_eq_zero (by simpa using hrow.1)
   subst hnews hxs
   refine fin (.slice none 0 0) w [] ?_ ?_ (RowG.nil e s)
   ·unfold Builtin.append_
    simp [run_underlying ht.out, run_underlying ht2.out, hz.out, hlenu, hcells]
   ·rw [hC]; rw [hL] at hst; exact hst
  ·obtain ⟨v', w', N', h1, h2, h3⟩ := grown 0 none rfl (by omega)
   exact fin v' w' N' h1 h2 h3
 ·by_cases hroom : n + m ≤ cap
  ·have hb : InC L b (.cells (xs ++ rest).toArray e (0, 0)) := ⟨hNL _ (by rw [hN]; exact List.mem_cons_self ..)⟩
   have hle : n * s + 0 + news.length ≤ (xs ++ rest).toArray.size := by
    rw [List.size_toArray, hrd.1, Nat.add_zero, ← Nat.add_mul]; exact Nat.le_trans (Nat.mul_le_mul_right _ hroom) hcl
   have e1 : (xs ++ rest).toArray.toList.take (n * s + 0) ++ news ++ (xs ++ rest).toArray.toList.drop (n * s + 0 + news.length) = (xs ++ news) ++ rest.drop news.length := by
    simp only [Nat.add_zero, ← hrow.1]
    simp
   have hu : UpdC L b (.cells ((xs ++ rest).toArray.toList.take (n * s + 0) ++ news ++ (xs ++ rest).toArray.toList.drop (n * s + 0 + news.length)).toArray e (0, 0)) (C [(b, .cells ((xs ++ news) ++ rest.drop news.length).toArray e (0, 0))]) :=
    ⟨A, B, .cells (xs ++ rest).toArray e (0, 0), by rw [hL, hN]; simp, by rw [hC, e1]; simp⟩
   obtain ⟨w', hr, hs⟩ := run_storeCells_st (P := P) (k := n * s) news 0 w _ L _ hsng hst hb hle hu
   refine fin (.slice (some ⟨b, 0, none⟩) (n + m) cap) w' _ ?_ hs ⟨hlen, .inr ⟨b, cap, rest.drop news.length, rfl, rfl, hroom, ?_⟩⟩
   ·have hadd : (⟨b, 0, none⟩ : Addr).add (n * s) = ⟨b, n * s, none⟩ := by unfold Addr.add; split <;> simp_all
    unfold Builtin.append_
    simp [run_underlying ht.out, run_underlying ht2.out, hz.out, hlenu, hroom, hcells, hadd, hr]
   ·have h9 := hle
    simp only [List.size_toArray, Nat.add_zero] at h9
    simp only [List.length_append, List.length_drop] at hcl h9 ⊢
    have := hrow.1
    omega
  ·obtain ⟨v', w', N', h1, h2, h3⟩ := grown cap (some ⟨b, 0, none⟩) rfl (by omega)
   exact fin v' w' N' h1 h2 h3
variable {w0 : World} {rd : Option Nat} {nt : Nat} {K : Post} {ds : List Deferred} {R : Chunk} {ops : Array Oper} {l : List Oper} {d : Nat} {pos : String} {after : Array Edge}
theorem OW.appendG {t t2 e : TypeId} {s bytes n m : Nat} {x y : Operand} {v u : Value} {xs news : List Value} {N : Chunk} {C : Chunk → Chunk} {z : Value} {zs : List Value}
  [hx : EvO ρ x v] [hy : EvO ρ y u] [ht : Und P t (.slice e)] [ht2 : Und P t2 (.slice e)] [hz : Siz P e s] [hzv : Zer P e z] [hzc : CellsL z zs] [hzl : LenL zs s] [hby : Byt P e bytes] [hbp : NeNat bytes 0]
  (hrow : RowG e s N v n xs) (hat : At L N C) (hrd : Rd L s u m news) (hsng : ∀ v ∈ news, Sng v) (hfit : (n + m) * bytes ≤ 140737488355328)
  (next : ∀ v' N', RowG e s N' v' (n + m) (xs ++ news) → OW P w0 rd nt ops K l (upd ρ d v') ds (C N')) :
  OW P w0 rd nt ops K (⟨some d, .call { callee := .builtin .append, args := #[x, y], argTypes := #[t, t2] }, ty, pos, after, none⟩ :: l) ρ ds L :=
 OW.eff (ef_appendG ht ht2 hz hzv hzc hzl.out hby (Nat.pos_of_ne_zero hbp.ne) hx hy hrow hat hrd hsng hfit) (fun v' L' ⟨N', h1, h2⟩ => by subst h1; exact next v' N' h2) (fun _ _ h => h.elim)
theorem RW.appendG {t t2 e : TypeId} {s bytes n m : Nat} {x y : Operand} {v u : Value} {xs news : List Value} {N : Chunk} {C : Chunk → Chunk} {z : Value} {zs : List Value} {g : Option (Nat × Bool)}
  [hg : GdT ops ρ g] [hx : EvO ρ x v] [hy : EvO ρ y u] [ht : Und P t (.slice e)] [ht2 : Und P t2 (.slice e)] [hz : Siz P e s] [hzv : Zer P e z] [hzc : CellsL z zs] [hzl : LenL zs s] [hby : Byt P e bytes] [hbp : NeNat bytes 0]
  (hrow : RowG e s N v n xs) (hat : At L N C) (hrd : Rd L s u m news) (hsng : ∀ v ∈ news, Sng v) (hfit : (n + m) * bytes ≤ 140737488355328)
  (next : ∀ v' N', RowG e s N' v' (n + m) (xs ++ news) → ∃ R', (∀ p ∈ R, p ∈ R') ∧ (∀ p ∈ R', p ∈ C N') ∧ RW P w0 rd nt ops K l R' (upd ρ d v') ds (C N')) :
  RW P w0 rd nt ops K (⟨some d, .call { callee := .builtin .append, args := #[x, y], argTypes := #[t, t2] }, ty, pos, after, g⟩ :: l) R ρ ds L :=
 RW.eff hg.out rfl (ef_appendG ht ht2 hz hzv hzc hzl.out hby (Nat.pos_of_ne_zero hbp.ne) hx hy hrow hat hrd hsng hfit) (fun v' L' ⟨N', h1, h2⟩ => by subst h1; exact next v' N' h2) (fun _ _ h => h.elim)
end
end Go.Pw

namespace Go.Pw
section
variable {P : Program} {w0 : World} {rd : Option Nat} {n : Nat} {K : Post} {ρ : Env} {ds : List Deferred} {L R : Chunk} {l : List Oper} {ops : Array Oper} {ty : TypeId} {d : Nat} {pos : String} {after : Array Edge}
theorem RW.lookOk {t kt et : TypeId} {x y : Operand} {k k' : IntKind} {j : Int} {m c : Nat} {es : List MapEntry} {z : Value} {g : Option (Nat × Bool)} [hg : GdT ops ρ g] [ht : Und P t (.map kt et)] [hk : Und P kt (.int k')] [hz : Zer P et z] [hx : EvO ρ x (.map (some m))] [hy : EvO ρ y (.int k j)] [hin : InC R m (.map es.toArray c)] (hes : keysI k es)
  (hs : ∀ v, findI es j = some v → RW P w0 rd n ops K l R (upd ρ d (.tuple #[v, .bool true])) ds L) (hn : findI es j = none → RW P w0 rd n ops K l R (upd ρ d (.tuple #[z, .bool false])) ds L) :
  RW P w0 rd n ops K (⟨some d, .lookup t x y true, ty, pos, after, g⟩ :: l) R ρ ds L := by
 have h := yl_lookupOk (P := P) (L := R) (ty := ty) ht hk hz hx hy hin hes
 cases hf : findI es j with
 | none => rw [hf] at h; exact RW.y h rfl (hn hf)
 | some v => rw [hf] at h; exact RW.y h rfl (hs v hf)
theorem RW.mapDel {dst : Option Tmp} {t kt : TypeId} {et t2 : TypeId} {x y : Operand} {k k' : IntKind} {j : Int} {m c : Nat} {es : List MapEntry} {L' : Chunk} {g : Option (Nat × Bool)} [hg : GdT ops ρ g] [ht : Und P t (.map kt et)] [hk : Und P kt (.int k')] [hx : EvO ρ x (.map (some m))] [hy : EvO ρ y (.int k j)] [hin : InC L m (.map es.toArray c)] (hes : KV k es c)
  [hu : UpdC L m (.map (delE j es).toArray c) L'] (next : ∃ R', (∀ p ∈ R, p ∈ R') ∧ (∀ p ∈ R', p ∈ L') ∧ RW P w0 rd n ops K l R' (updO ρ dst (.tuple #[])) ds L') : RW P w0 rd n ops K (⟨dst, .call { callee := .builtin .delete, args := #[x, y], argTypes := #[t, t2] }, ty, pos, after, g⟩ :: l) R ρ ds L :=
 RW.eff hg.out (by rfl) (ef_delete ht hk hx hy hin hes hu) (fun v L'' ⟨h1, h2⟩ => by subst h1 h2; exact next) (fun _ _ h => h.elim)
end
end Go.Pw

namespace Go.Pw
section
variable {P : Program} {w0 : World} {rd : Option Nat} {n : Nat} {K : Post} {ρ : Env} {ds : List Deferred} {L : Chunk} {l : List Oper} {ops : Array Oper} {ty : TypeId} {d : Nat} {pos : String} {after : Array Edge}
theorem OW.lookD {t kt et : TypeId} {x y : Operand} {k k' : IntKind} {j : Int} {m c : Nat} {es : List MapEntry} {z v : Value} [ht : Und P t (.map kt et)] [hk : Und P kt (.int k')] [hz : Zer P et z] [hx : EvO ρ x (.map (some m))] [hy : EvO ρ y (.int k j)] [hin : InC L m (.map es.toArray c)] (hes : keysI k es)
  (hv : (findI es j).getD z = v) (next : OW P w0 rd n ops K l (upd ρ d v) ds L) : OW P w0 rd n ops K (⟨some d, .lookup t x y false, ty, pos, after, none⟩ :: l) ρ ds L := by
 have h := yl_lookup (P := P) (ty := ty) ht hk hz hx hy hin hes
 rw [hv] at h
 exact OW.y h next
end
end Go.Pw
namespace Go.Pw
section
variable {P : Program} {w0 : World} {rd : Option Nat} {n : Nat} {K : Post} {ρ : Env} {ds : List Deferred} {L L' : Chunk} {c : Code}
theorem CW.perm (hp : L.Perm L') (h : CW P w0 rd n c K ρ ds L') : CW P w0 rd n c K ρ ds L := fun a w hr hst => h a w hr (hst.perm hp)
end
end Go.Pw

namespace Go.Pw
class BEqC (a b : Bool) (r : outParam Bool) : Prop where out : (a == b) = r
instance (priority := high) beqRefl {a : Bool} : BEqC a a true := ⟨by cases a <;> rfl⟩
instance beqTF : BEqC true false false := ⟨rfl⟩
instance beqFT : BEqC false true false := ⟨rfl⟩
class BNeC (a b : Bool) (r : outParam Bool) : Prop where out : (a == b) = !r
instance (priority := high) bneRefl {a : Bool} : BNeC a a false := ⟨by cases a <;> rfl⟩
instance bneTF : BNeC true false true := ⟨rfl⟩
instance bneFT : BNeC false true true := ⟨rfl⟩
section
variable {P : Program} {ρ : Env} {L : Chunk} {ty : TypeId}
theorem run_eqBool {w : World} (d' : Nat) {t : TypeId} {a b : Bool} (ht : P.underlying t = some .bool) : (Op.equalIn (d' + 1) t (.bool a) (.bool b)).run P w = .ok (a == b) w := by
 simp [Op.equalIn, run_underlying ht]
instance op1EqlBool {t yt : TypeId} {x y : Operand} {a b r : Bool} [ht : Und P t .bool] [hx : EvO ρ x (.bool a)] [hy : EvO ρ y (.bool b)] [h : BEqC a b r] : Op1 P ρ L (.binOp .eql t x y yt) ty (.bool r) :=
 ⟨yl_of_run (fun c h => (by cases h)) fun w o ho _ _ => by
  have h1 : (Op.equal t (.bool a) (.bool b)).run P w = .ok (a == b) w := run_eqBool 9999 ht.out
  unfold execOp
  simp [ho, hx.out, hy.out, eqGuard, binOp, h1, h.out]⟩
instance op1NeqBool {t yt : TypeId} {x y : Operand} {a b r : Bool} [ht : Und P t .bool] [hx : EvO ρ x (.bool a)] [hy : EvO ρ y (.bool b)] [h : BNeC a b r] : Op1 P ρ L (.binOp .neq t x y yt) ty (.bool r) :=
 ⟨yl_of_run (fun c h => (by cases h)) fun w o ho _ _ => by
  have h1 : (Op.equal t (.bool a) (.bool b)).run P w = .ok (a == b) w := run_eqBool 9999 ht.out
  unfold execOp
  simp [ho, hx.out, hy.out, eqGuard, binOp, h1, h.out]⟩
end
end Go.Pw

namespace Go.Pw
section
variable {P : Program} {w0 : World} {rd : Option Nat} {n : Nat} {K : Post} {ρ : Env} {ds : List Deferred} {L : Chunk} {l : List Oper} {ops : Array Oper}
theorem OW.cutK {N : Env → List Deferred → Chunk → Prop} (E : Env → List Deferred → Chunk → Prop) (next : ∀ ρ ds L, E ρ ds L → N ρ ds L)
  (h : ∀ N' : Env → List Deferred → Chunk → Prop, (∀ ρ ds L, E ρ ds L → N' ρ ds L) → OW P w0 rd n ops (thenK N' K) l ρ ds L) : OW P w0 rd n ops (thenK N K) l ρ ds L := h N next
end
end Go.Pw

namespace Go.Pw
section
variable {P : Program} {ρ : Env} {L : Chunk} {ty : TypeId}
theorem ef_grow {t t2 e : TypeId} {s bytes n cap m : Nat} {x y : Operand} {base : Option Addr} {u : Value} {xs news : List Value} {z : Value} {zs : List Value}
  (ht : Und P t (.slice e)) (ht2 : Und P t2 (.slice e)) (hz : Siz P e s) (hzv : Zer P e z) (hzc : CellsL z zs) (hzl : zs.length = s) (hby : Byt P e bytes) (hbp : 0 < bytes)
  (hx : EvO ρ x (.slice base n cap)) (hy : EvO ρ y u) (hrd : Rd L s u m news) (hbase : Rd L s (.slice base n cap) n xs) (hcap : cap < n + m) (hfit : (n + m) * bytes ≤ 140737488355328) :
  Ef P ρ L (.call { callee := .builtin .append, args := #[x, y], argTypes := #[t, t2] }) ty (fun v' L' => ∃ N', L' = N' ++ L ∧ Row e s N' v' (n + m) (xs ++ news)) noPanic := by
 refine ⟨fun c h => (by cases h), fun w0 w rd a next Q o ho hty ha hst hn _ => ?_⟩
 have hnm : n + m ≤ 140737488355328 := Nat.le_trans (Nat.le_mul_of_pos_right _ hbp) hfit
 have hlen : (xs ++ news).length = (n + m) * s := by rw [List.length_append, hbase.1, hrd.1, Nat.add_mul]
 obtain ⟨i, hi, hib⟩ := hby.out
 have hti : ∀ w, (typeInfo e).run P w = .ok i w := fun w => by simp [typeInfo, hi]
 have hunfold : ∀ r, (Builtin.append_ #[t, t2] o.type #[.slice base n cap, u]).run P w = r → (execOp (ev ρ) o).run P w = r.andThen fun v w' => .ok (.value v) w' := fun r hr => by
  unfold execOp
  simp only [ho, resolve, invoke, builtin, Sem.run_bind, Sem.run_pure, Result.andThen_ok, List.map_toArray, List.map_cons, List.map_nil, hx.out, hy.out, hr]
 have hlenu := lenOf_rd (P := P) (w := w) hrd
 have hpd : Pn w.drew L := hst.pn
 have hcellsD := run_firstCells_rd (P := P) hrd hpd
 have holdD := run_firstCells_rd (P := P) hbase hpd
 have hn1 : ¬ (n + m ≤ cap) := by omega
 have hn2 : ¬ ((9223372036854775807 : Int) < (n : Int) + (m : Int) ∧ i.bytes = 0) := by omega
 have hn3 : ¬ (281474976710656 < Builtin.nextslicecap (n + m) cap * i.bytes) := by
  have := growslice_fits hcap (by rw [hib]; exact hfit : (n + m) * i.bytes ≤ 140737488355328); omega
 have hK : n + m ≤ grownCap w (n + m) cap e := grownCap_ge w _ _ _
 have hrun : (Builtin.append_ #[t, t2] o.type #[.slice base n cap, u]).run P w = .ok (.slice (some ⟨w.heap.size, 0, none⟩) (n + m) (grownCap w (n + m) cap e))
   (w.drew.alloc (.cells (xs.toArray ++ (news.toArray ++ Builtin.zeroCells z.cells (grownCap w (n + m) cap e - (n + m)))) e)) := by
  unfold Builtin.append_
  simp [run_underlying ht.out, run_underlying ht2.out, hz.out, hlenu, hn1, hti, hn2, hn3, choose, Sem.run, Question.forced, askRoom, newRow, newObj]
  simp [holdD, hcellsD, hzv.out, grownCap]
 rw [hunfold _ hrun]
 refine hn _ _ ([(w.heap.size, .cells (xs.toArray ++ (news.toArray ++ Builtin.zeroCells z.cells (grownCap w (n + m) cap e - (n + m)))) e (0, 0))] ++ L) ?_ ⟨_, rfl, hlen, .inr ⟨w.heap.size, grownCap w (n + m) cap e, (Builtin.zeroCells z.cells (grownCap w (n + m) cap e - (n + m))).toList, rfl, ?_, hK, ?_⟩⟩
 ·exact St.alloc (w := w.drew) hst.drew _
 ·simp
 ·rw [List.length_append, hlen, hzc.out, Array.length_toList, length_zeroCells, hzl, ← Nat.add_mul]
  congr 1
  omega
theorem ef_append0 {t t2 e : TypeId} {s bytes m : Nat} {x y : Operand} {base : Option Addr} {u : Value} {news : List Value} {z : Value} {zs : List Value}
  (ht : Und P t (.slice e)) (ht2 : Und P t2 (.slice e)) (hz : Siz P e s) (hzv : Zer P e z) (hzc : CellsL z zs) (hzl : zs.length = s) (hby : Byt P e bytes) (hbp : 0 < bytes)
  (hx : EvO ρ x (.slice base 0 0)) (hy : EvO ρ y u) (hrd : Rd L s u m news) (hfit : m * bytes ≤ 140737488355328) :
  Ef P ρ L (.call { callee := .builtin .append, args := #[x, y], argTypes := #[t, t2] }) ty (fun v' L' => (m = 0 ∧ v' = .slice base 0 0 ∧ L' = L) ∨ (m ≠ 0 ∧ ∃ N', L' = N' ++ L ∧ Row e s N' v' m news)) noPanic := by
 have hbase : Rd L s (.slice base 0 0) 0 [] := ⟨by simp, .inl ⟨⟨_, _, rfl⟩, rfl⟩⟩
 by_cases hm : m = 0
 ·refine ⟨fun c h => (by cases h), fun w0 w rd a next Q o ho hty ha hst hn _ => ?_⟩
  subst hm
  have hnews : news = [] := List.eq_nil_of_length_eq_zero (by simpa using hrd.1)
  subst hnews
  have hlenu := lenOf_rd (P := P) (w := w) hrd
  have hcells := run_firstCells_rd (P := P) hrd hst.pn
  have hrun : (Builtin.append_ #[t, t2] o.type #[.slice base 0 0, u]).run P w = .ok (.slice base 0 0) w := by
   unfold Builtin.append_
   cases base with
   | none => simp [run_underlying ht.out, run_underlying ht2.out, hz.out, hlenu, hcells]
   | some ad => simp [run_underlying ht.out, run_underlying ht2.out, hz.out, hlenu, hcells, storeCells]
  unfold execOp
  simp only [ho, resolve, invoke, builtin, Sem.run_bind, Sem.run_pure, Result.andThen_ok, List.map_toArray, List.map_cons, List.map_nil, hx.out, hy.out, hrun]
  exact hn _ w L hst (.inl ⟨rfl, rfl, rfl⟩)
 ·have h := ef_grow (P := P) (ty := ty) ht ht2 hz hzv hzc hzl hby hbp hx hy hrd hbase (by omega) (by simpa using hfit)
  refine ⟨h.1, fun w0 w rd a next Q o ho hty ha hst hn hp => h.2 w0 w rd a next Q o ho hty ha hst (fun v w' L' hs h => hn v w' L' hs (.inr ⟨hm, ?_⟩)) hp⟩
  obtain ⟨N', h1, h2⟩ := h
  exact ⟨N', h1, by simpa using h2⟩
variable {w0 : World} {rd : Option Nat} {nt : Nat} {K : Post} {ds : List Deferred} {R : Chunk} {ops : Array Oper} {l : List Oper} {d : Nat} {pos : String} {after : Array Edge}
theorem CW.cutB {c : Code} {id : Nat} {N : Env → List Deferred → Chunk → Prop} (E : Env → List Deferred → Chunk → Prop) (next : ∀ ρ ds L, E ρ ds L → N ρ ds L)
  (h : ∀ N' : Env → List Deferred → Chunk → Prop, (∀ ρ ds L, E ρ ds L → N' ρ ds L) → CW P w0 rd nt c (blockK id (thenK N' K)) ρ ds L) : CW P w0 rd nt c (blockK id (thenK N K)) ρ ds L := h N next
theorem CW.cutK {c : Code} {N : Env → List Deferred → Chunk → Prop} (E : Env → List Deferred → Chunk → Prop) (next : ∀ ρ ds L, E ρ ds L → N ρ ds L)
  (h : ∀ N' : Env → List Deferred → Chunk → Prop, (∀ ρ ds L, E ρ ds L → N' ρ ds L) → CW P w0 rd nt c (thenK N' K) ρ ds L) : CW P w0 rd nt c (thenK N K) ρ ds L := h N next
end
end Go.Pw
namespace Go.Pw
class Sfx (L' L : Chunk) : Prop where out : ∃ X, L' = X ++ L
instance (priority := high) sfxRefl {L : Chunk} : Sfx L L := ⟨[], rfl⟩
instance sfxCons {L L' : Chunk} {p : Nat × Obj} [h : Sfx L' L] : Sfx (p :: L') L := ⟨let ⟨X, e⟩ := h.out; ⟨p :: X, by rw [e]; rfl⟩⟩
instance sfxApp {L L' N : Chunk} [h : Sfx L' L] : Sfx (N ++ L') L := ⟨let ⟨X, e⟩ := h.out; ⟨N ++ X, by rw [e, List.append_assoc]⟩⟩
end Go.Pw

namespace Go.Pw
def RowE (e : TypeId) (s : Nat) (N : Chunk) (v : Value) (n : Nat) (xs : List Value) : Prop := Row e s N v n xs ∨ ((∃ base, v = .slice base 0 0) ∧ n = 0 ∧ N = [] ∧ xs = [])
theorem RowE.empty (e : TypeId) (s : Nat) (base : Option Addr) : RowE e s [] (.slice base 0 0) 0 [] := .inr ⟨⟨_, rfl⟩, rfl, rfl, rfl⟩
theorem RowE.rd {e : TypeId} {s n : Nat} {N : Chunk} {v : Value} {xs : List Value} (h : RowE e s N v n xs) : Rd N s v n xs := by
 rcases h with h | ⟨⟨base, rfl⟩, rfl, rfl, rfl⟩
 ·exact h.rd
 ·exact ⟨by simp, .inl ⟨⟨_, _, rfl⟩, rfl⟩⟩
theorem RowE.slice {e : TypeId} {s n : Nat} {N : Chunk} {v : Value} {xs : List Value} (h : RowE e s N v n xs) : ∃ a c, v = .slice a n c := let ⟨a, c, h, _⟩ := h.rd.isSlice; ⟨a, c, h⟩
theorem RowE.sng {e : TypeId} {s n : Nat} {N : Chunk} {v : Value} {xs : List Value} (h : RowE e s N v n xs) : Sng v := by obtain ⟨a, c, rfl⟩ := h.slice; infer_instance
section
variable {P : Program} {ρ : Env} {L : Chunk} {ty : TypeId}
theorem ef_appendE {t t2 e : TypeId} {s bytes n m : Nat} {x y : Operand} {v u : Value} {xs news : List Value} {N : Chunk} {C : Chunk → Chunk} {z : Value} {zs : List Value}
  (ht : Und P t (.slice e)) (ht2 : Und P t2 (.slice e)) (hz : Siz P e s) (hzv : Zer P e z) (hzc : CellsL z zs) (hzl : zs.length = s) (hby : Byt P e bytes) (hbp : 0 < bytes)
  (hx : EvO ρ x v) (hy : EvO ρ y u) (hrow : RowE e s N v n xs) (hat : At L N C) (hrd : Rd L s u m news) (hsng : ∀ v ∈ news, Sng v) (hfit : (n + m) * bytes ≤ 140737488355328) :
  Ef P ρ L (.call { callee := .builtin .append, args := #[x, y], argTypes := #[t, t2] }) ty (fun v' L' => ∃ N', L' = C N' ∧ RowE e s N' v' (n + m) (xs ++ news)) noPanic := by
 rcases hrow with hrow | ⟨⟨base, rfl⟩, rfl, rfl, rfl⟩
 ·have h := ef_append (ty := ty) ht ht2 hz hzv hzc hzl hby hbp hx hy hrow hat hrd hsng hfit
  exact ⟨h.1, fun w0 w rd a next Q o ho hty ha hst hn hp => h.2 w0 w rd a next Q o ho hty ha hst (fun v w' L' hs ⟨N', h1, h2⟩ => hn v w' L' hs ⟨N', h1, .inl h2⟩) hp⟩
 ·obtain ⟨A, B, rfl, hC⟩ := hat.out
  obtain rfl : C = fun X => A ++ X ++ B := funext hC
  have h := ef_append0 (ty := ty) ht ht2 hz hzv hzc hzl hby hbp hx hy hrd (by rw [Nat.zero_add] at hfit; exact hfit)
  refine ⟨h.1, fun w0 w rd a next Q o ho hty ha hst hn hp => h.2 w0 w rd a next Q o ho hty ha hst (fun v w' L' hs h => ?_) hp⟩
  rcases h with ⟨hm, rfl, rfl⟩ | ⟨hm, N', rfl, hrow⟩
  ·subst hm
   have hnews : news = [] := List.eq_nil_of_length_eq_zero (by simpa using hrd.1)
   subst hnews
   exact hn _ w' _ hs ⟨[], rfl, RowE.empty ..⟩
  ·have hp2 : (N' ++ (A ++ [] ++ B)).Perm (A ++ N' ++ B) := by
    rw [List.append_nil, ← List.append_assoc]
    exact List.Perm.append_right _ List.perm_append_comm
   exact hn _ w' _ (hs.perm hp2) ⟨N', rfl, .inl (by simpa using hrow)⟩
variable {w0 : World} {rd : Option Nat} {nt : Nat} {K : Post} {ds : List Deferred} {R : Chunk} {ops : Array Oper} {l : List Oper} {d : Nat} {pos : String} {after : Array Edge}
theorem OW.appendE {t t2 e : TypeId} {s bytes n m : Nat} {x y : Operand} {v u : Value} {xs news : List Value} {N : Chunk} {C : Chunk → Chunk} {z : Value} {zs : List Value}
  [hx : EvO ρ x v] [hy : EvO ρ y u] [ht : Und P t (.slice e)] [ht2 : Und P t2 (.slice e)] [hz : Siz P e s] [hzv : Zer P e z] [hzc : CellsL z zs] [hzl : LenL zs s] [hby : Byt P e bytes] [hbp : NeNat bytes 0]
  (hrow : RowE e s N v n xs) (hat : At L N C) (hrd : Rd L s u m news) (hsng : ∀ v ∈ news, Sng v) (hfit : (n + m) * bytes ≤ 140737488355328)
  (next : ∀ v' N', RowE e s N' v' (n + m) (xs ++ news) → OW P w0 rd nt ops K l (upd ρ d v') ds (C N')) :
  OW P w0 rd nt ops K (⟨some d, .call { callee := .builtin .append, args := #[x, y], argTypes := #[t, t2] }, ty, pos, after, none⟩ :: l) ρ ds L :=
 OW.eff (ef_appendE ht ht2 hz hzv hzc hzl.out hby (Nat.pos_of_ne_zero hbp.ne) hx hy hrow hat hrd hsng hfit) (fun v' L' ⟨N', h1, h2⟩ => by subst h1; exact next v' N' h2) (fun _ _ h => h.elim)
theorem RW.appendE {t t2 e : TypeId} {s bytes n m : Nat} {x y : Operand} {v u : Value} {xs news : List Value} {N : Chunk} {C : Chunk → Chunk} {z : Value} {zs : List Value} {g : Option (Nat × Bool)}
  [hg : GdT ops ρ g] [hx : EvO ρ x v] [hy : EvO ρ y u] [ht : Und P t (.slice e)] [ht2 : Und P t2 (.slice e)] [hz : Siz P e s] [hzv : Zer P e z] [hzc : CellsL z zs] [hzl : LenL zs s] [hby : Byt P e bytes] [hbp : NeNat bytes 0]
  (hrow : RowE e s N v n xs) (hat : At L N C) (hrd : Rd L s u m news) (hsng : ∀ v ∈ news, Sng v) (hfit : (n + m) * bytes ≤ 140737488355328)
  (next : ∀ v' N', RowE e s N' v' (n + m) (xs ++ news) → ∃ R', (∀ p ∈ R, p ∈ R') ∧ (∀ p ∈ R', p ∈ C N') ∧ RW P w0 rd nt ops K l R' (upd ρ d v') ds (C N')) :
  RW P w0 rd nt ops K (⟨some d, .call { callee := .builtin .append, args := #[x, y], argTypes := #[t, t2] }, ty, pos, after, g⟩ :: l) R ρ ds L :=
 RW.eff hg.out rfl (ef_appendE ht ht2 hz hzv hzc hzl.out hby (Nat.pos_of_ne_zero hbp.ne) hx hy hrow hat hrd hsng hfit) (fun v' L' ⟨N', h1, h2⟩ => by subst h1; exact next v' N' h2) (fun _ _ h => h.elim)
end
end Go.Pw

namespace Go.Pw.Md
open Go.Pw.Sc
def LeftZ {α : Type} (zs : List (MapEntry × α)) (seen : Array Nat) (tz : List (MapEntry × α)) : Prop := tz = zs.filter fun z => !seen.contains z.1.born
theorem LeftZ.init {α : Type} (zs : List (MapEntry × α)) : LeftZ zs #[] zs := by
 unfold LeftZ
 exact (List.filter_eq_self.2 fun _ _ => by simp).symm
theorem LeftZ.left {α : Type} {zs tz : List (MapEntry × α)} {seen : Array Nat} (h : LeftZ zs seen tz) : Left (zs.map (·.1)) seen (tz.map (·.1)) := by
 unfold Left LeftZ at *
 rw [h, List.filter_map]
 rfl
theorem LeftZ.step {α : Type} {zs tz : List (MapEntry × α)} {seen : Array Nat} (hn : (zs.map fun z => z.1.born).Nodup) (h : LeftZ zs seen tz) {z : MapEntry × α} (hz : z ∈ tz) :
  ∃ A B, tz = A ++ z :: B ∧ LeftZ zs (seen.push z.1.born) (A ++ B) := by
 obtain ⟨A, B, rfl⟩ := List.append_of_mem hz
 refine ⟨A, B, rfl, ?_⟩
 have hn : ((A ++ z :: B).map fun z => z.1.born).Nodup := by rw [h]; exact List.Nodup.sublist (List.filter_sublist.map _) hn
 have e1 : (zs.filter fun x => !(seen.push z.1.born).contains x.1.born) = (zs.filter fun x => !seen.contains x.1.born).filter fun x => decide (x.1.born ≠ z.1.born) := by
  rw [List.filter_filter]
  refine List.filter_congr fun x _ => ?_
  simp only [Array.contains_push]
  by_cases hx : x.1.born = z.1.born
  ·simp [hx]
  ·have : (x.1.born == z.1.born) = false := by simpa using hx
   simp [this, hx]
 unfold LeftZ at h ⊢
 rw [e1, ← h, List.filter_append, List.filter_cons_of_neg (by simp)]
 rw [List.map_append, List.nodup_append, List.map_cons, List.nodup_cons] at hn
 rw [List.filter_eq_self.2, List.filter_eq_self.2]
 ·intro a ha
  simp only [decide_eq_true_eq]
  intro hh
  exact hn.2.1.1 (List.mem_map.2 ⟨a, ha, hh⟩)
 ·intro a ha
  simp only [decide_eq_true_eq]
  intro hh
  exact hn.2.2 _ (List.mem_map.2 ⟨a, ha, rfl⟩) _ (List.mem_cons_self ..) hh
section
variable {P : Program} {w0 : World} {rd : Option Nat} {n : Nat} {K : Post} {ρ : Env} {ds : List Deferred} {L R : Chunk} {l : List Oper} {ops : Array Oper} {ty : TypeId} {d : Nat} {pos : String} {after : Array Edge}
theorem OW.nextZ {α : Type} {x : Operand} {r m since c0 clock : Nat} {seen : Array Nat} {es : List MapEntry} {zs tz : List (MapEntry × α)} {q : IntKind} {C : Chunk → Chunk} [hx : EvO ρ x (.pointer (some ⟨r, 0, none⟩))] [hat : At L [(r, .mapIter (some m) since seen c0)] C] [hin : InC L m (.map es.toArray clock)]
  (hk : KV q es clock) (hes : es = zs.map (·.1)) (hl : LeftZ zs seen tz) (hold : ∀ e ∈ es, e.born < since) (hsc : since ≤ c0)
  (h0 : tz = [] → OW P w0 rd n ops K l (upd ρ d (.tuple #[.bool false])) ds L)
  (h1 : ∀ A z B, tz = A ++ z :: B → z ∈ zs → LeftZ zs (seen.push z.1.born) (A ++ B) → OW P w0 rd n ops K l (upd ρ d (.tuple #[.bool true, z.1.key, z.1.val])) ds (C [(r, .mapIter (some m) since (seen.push z.1.born) clock)])) :
  OW P w0 rd n ops K (⟨some d, .next x false, ty, pos, after, none⟩ :: l) ρ ds L :=
 OW.next hold hsc (fun h => by
  have h2 := leftOf_none (hes ▸ hl.left) h
  exact h0 (by simpa using h2)) (fun e he => by
  have hm := leftOf_mem (hes ▸ hl.left) he
  obtain ⟨z, hz, rfl⟩ := List.mem_map.1 hm
  obtain ⟨A, B, e1, e2⟩ := hl.step (by have := hk.births; rw [hes, List.map_map] at this; exact this) hz
  refine h1 A z B e1 ?_ e2
  rw [hl] at hz
  exact (List.mem_filter.1 hz).1)
end
@[reducible] def pcV (p : Pc) (v : Value) : Value := .agg #[.int .u32 p.ad, .int .i64 p.size, .int .i64 p.room, v]
def PcAt (L : Chunk) (e : MapEntry) (p : Pc) : Prop := e.key = .int .u32 p.ad ∧ ∃ v, e.val = pcV p v ∧ Rd L 1 v p.b.length (iv p.b)
theorem PcAt.to {L L' : Chunk} {e : MapEntry} {p : Pc} (h : PcAt L e p) [hm : MemC L L'] : PcAt L' e p := let ⟨a, v, b, c⟩ := h; ⟨a, v, b, c.to⟩
structure Zs (L : Chunk) (es : List MapEntry) (zs : List (MapEntry × Pc)) : Prop where
 es : es = zs.map (·.1)
 at_ : ∀ z ∈ zs, PcAt L z.1 z.2
theorem Zs.to {L L' : Chunk} {es : List MapEntry} {zs : List (MapEntry × Pc)} (h : Zs L es zs) [hm : MemC L L'] : Zs L' es zs := ⟨h.es, fun z hz => (h.at_ z hz).to⟩
def MRest (L : Chunk) (bp : Nat) (m : Mod) : Prop := ∃ es c zs, InC L bp (.map (List.toArray es) c) ∧ KV .u32 es c ∧ Zs L es zs ∧ (zs.map (·.2)).Perm m.L
theorem MRest.to {L L' : Chunk} {bp : Nat} {m : Mod} (h : MRest L bp m) [hm : MemC L L'] : MRest L' bp m := let ⟨es, c, zs, a, b, d, e⟩ := h; ⟨es, c, zs, ⟨hm.out _ a.out⟩, b, d.to, e⟩
@[reducible] def mcells (m : Mod) (bp : Nat) : List Value := [.int .i64 m.slot, .int .i64 m.quota, .map (some bp)]
theorem Zs.find {L : Chunk} {es : List MapEntry} {zs : List (MapEntry × Pc)} {c : Nat} (h : Zs L es zs) (hk : KV .u32 es c) {a : Int} {v : Value} (hf : findI es a = some v) : ∃ z ∈ zs, z.2.ad = a ∧ z.1.val = v := by
 obtain ⟨A, e, B, e1, e2, e3⟩ := hk.some_of hf
 have he : e ∈ es := by rw [e1]; simp
 rw [h.es] at he
 obtain ⟨z, hz, rfl⟩ := List.mem_map.1 he
 refine ⟨z, hz, ?_, e3⟩
 have := (h.at_ z hz).1
 rw [e2] at this
 cases this
 rfl
theorem Zs.find_none {L : Chunk} {es : List MapEntry} {zs : List (MapEntry × Pc)} {c : Nat} (h : Zs L es zs) (hk : KV .u32 es c) {a : Int} (hf : findI es a = none) : ∀ z ∈ zs, z.2.ad ≠ a := fun z hz e => by
 have h1 := hk.none_of hf z.1 (by rw [h.es]; exact List.mem_map.2 ⟨z, hz, rfl⟩)
 rw [(h.at_ z hz).1] at h1
 exact h1 e
theorem perm_find {m : Mod} (hm : WF m) {ps : List Pc} (hp : ps.Perm m.L) {p : Pc} (h : p ∈ ps) : m.find p.ad = some p := find_of hm (hp.mem_iff.1 h)
theorem perm_find_none {m : Mod} {ps : List Pc} (hp : ps.Perm m.L) {a : Int} (h : ∀ p ∈ ps, p.ad ≠ a) : m.find a = none := List.find?_eq_none.2 fun p hp' => by simpa using h p (hp.mem_iff.2 hp')
end Go.Pw.Md

namespace Go.Pw.Md
def overK (a : Int) (bs : List Int) (ad k : Int) (b : List Int) : List Int := b.zipIdx.map fun x => if a ≤ ad + (x.2 : Int) ∧ ad + (x.2 : Int) < k then bs.getD (ad + x.2 - a).toNat 0 else x.1
def agreesK (a : Int) (bs : List Int) (ad k : Int) (b : List Int) : Prop := ∀ d : Nat, d < b.length → a ≤ ad + (d : Int) → ad + (d : Int) < k → b.getD d 0 = -1 ∨ b.getD d 0 = bs.getD (ad + d - a).toNat 0
instance (a : Int) (bs : List Int) (ad k : Int) (b : List Int) : Decidable (agreesK a bs ad k b) := by unfold agreesK; infer_instance
theorem overK_len (a : Int) (bs : List Int) (ad k : Int) (b : List Int) : (overK a bs ad k b).length = b.length := by simp [overK]
theorem overK_get {a : Int} {bs : List Int} {ad k : Int} {b : List Int} {d : Nat} (hd : d < b.length) : (overK a bs ad k b)[d]? = some (if a ≤ ad + (d : Int) ∧ ad + (d : Int) < k then bs.getD (ad + d - a).toNat 0 else b[d]) := by
 simp [overK, List.getElem?_zipIdx, List.getElem?_eq_getElem hd]
theorem overK_same {a : Int} {bs : List Int} {ad k : Int} {b : List Int} (h : ∀ d : Nat, d < b.length → ¬ (a ≤ ad + (d : Int) ∧ ad + (d : Int) < k)) : overK a bs ad k b = b := by
 apply List.ext_getElem?
 intro d
 by_cases hd : d < b.length
 ·rw [overK_get hd, if_neg (h d hd), List.getElem?_eq_getElem hd]
 ·rw [List.getElem?_eq_none (by rw [overK_len]; omega), List.getElem?_eq_none (by omega)]
theorem overK_start {a : Int} {bs : List Int} {ad : Int} {b : List Int} : overK a bs ad (max a ad) b = b := overK_same fun d _ h => by omega
theorem over_eq {a : Int} {bs : List Int} {p : Pc} : (over a bs p).b = overK a bs p.ad (a + bs.length) p.b := rfl
theorem overK_end {a : Int} {bs : List Int} {p : Pc} (hl : (p.b.length : Int) = p.room) : overK a bs p.ad (min (a + bs.length) (p.ad + p.room)) p.b = (over a bs p).b := by
 rw [over_eq]
 apply List.ext_getElem?
 intro d
 by_cases hd : d < p.b.length
 ·rw [overK_get hd, overK_get hd]
  congr 1
  by_cases hc : a ≤ p.ad + (d : Int) ∧ p.ad + (d : Int) < a + bs.length
  ·rw [if_pos hc, if_pos (by omega)]
  ·rw [if_neg hc, if_neg (by omega)]
 ·rw [List.getElem?_eq_none (by rw [overK_len]; omega), List.getElem?_eq_none (by rw [overK_len]; omega)]
theorem overK_step {a : Int} {bs : List Int} {ad k : Int} {b : List Int} (h1 : a ≤ k) (h2 : ad ≤ k) (h3 : k < ad + b.length) : overK a bs ad (k + 1) b = (overK a bs ad k b).set (k - ad).toNat (bs.getD (k - a).toNat 0) := by
 apply List.ext_getElem?
 intro d
 rw [List.getElem?_set]
 by_cases hd : d < b.length
 ·rw [overK_get hd]
  by_cases hk : (k - ad).toNat = d
  ·rw [if_pos hk, if_pos (by omega), if_pos (by rw [overK_len]; omega)]
   congr 2
   omega
  ·rw [if_neg hk, overK_get hd]
   congr 1
   by_cases hc : a ≤ ad + (d : Int) ∧ ad + (d : Int) < k
   ·rw [if_pos hc, if_pos (by omega)]
   ·rw [if_neg hc, if_neg (by omega)]
 ·rw [List.getElem?_eq_none (by rw [overK_len]; omega), if_neg (by omega), List.getElem?_eq_none (by rw [overK_len]; omega)]
theorem overK_old {a : Int} {bs : List Int} {ad k : Int} {b : List Int} {d : Nat} (hd : d < b.length) (hk : (d : Int) = k - ad) : (overK a bs ad k b)[d]? = some b[d] := by
 rw [overK_get hd, if_neg (by omega)]
theorem over_none {a : Int} {bs : List Int} {p : Pc} (hl : (p.b.length : Int) = p.room) (h : min (a + bs.length) (p.ad + p.room) ≤ max a p.ad) : over a bs p = p := by
 have e : (over a bs p).b = p.b := by
  rw [over_eq]
  exact overK_same fun d hd hc => by omega
 have : over a bs p = { p with b := (over a bs p).b } := rfl
 rw [this, e]
theorem agreesK_start {a : Int} {bs : List Int} {ad : Int} {b : List Int} : agreesK a bs ad (max a ad) b := fun d _ h1 h2 => by omega
theorem agreesK_end {a : Int} {bs : List Int} {p : Pc} (hl : (p.b.length : Int) = p.room) : agreesK a bs p.ad (min (a + bs.length) (p.ad + p.room)) p.b ↔ agrees a bs p :=
 ⟨fun h d hd h1 h2 => h d hd h1 (by omega), fun h d hd h1 h2 => h d hd h1 (by omega)⟩
theorem agrees_none {a : Int} {bs : List Int} {p : Pc} (hl : (p.b.length : Int) = p.room) (h : min (a + bs.length) (p.ad + p.room) ≤ max a p.ad) : agrees a bs p := fun d hd h1 h2 => by omega
theorem agreesK_step {a : Int} {bs : List Int} {ad k : Int} {b : List Int} (h1 : a ≤ k) (h2 : ad ≤ k) {d : Nat} (hd : d < b.length) (hk : (d : Int) = k - ad) :
  agreesK a bs ad (k + 1) b ↔ agreesK a bs ad k b ∧ (b[d] = -1 ∨ b[d] = bs.getD (k - a).toNat 0) := by
 have hb : b.getD d 0 = b[d] := by rw [List.getD_eq_getElem?_getD, List.getElem?_eq_getElem hd]; rfl
 constructor
 ·intro h
  refine ⟨fun e he h1 h2 => h e he h1 (by omega), ?_⟩
  have := h d hd (by omega) (by omega)
  rw [hb, show ad + (d : Int) - a = k - a by omega] at this
  exact this
 ·rintro ⟨h, h3⟩ e he g1 g2
  by_cases hed : e = d
  ·subst hed
   rw [hb, show ad + (e : Int) - a = k - a by omega]
   exact h3
  ·exact h e he g1 (by omega)
end Go.Pw.Md

namespace Go.Pw
section
variable {P : Program} {w0 : World} {rd : Option Nat} {n : Nat} {K : Post} {ρ : Env} {ds : List Deferred} {L : Chunk} {l : List Oper}
theorem CW.drawsSwR {id : Nat} (is0 is : List Nat) (k : Nat) (ks : List Nat) (hm : P.follows .mixedOrders = true) (hok : regionOkS n l.toArray is0 is k ks = true) [hK : StdC K]
  {l0 l1 l2 : List Oper} [p0 : Pick l is0 l0] [p1 : Pick l is l1] [p2 : Pick l (k :: ks) l2]
  (h : RW P w0 rd n l.toArray (thenK (fun ρ ds L => ∃ R, (∀ p ∈ R, p ∈ L) ∧ RW P w0 rd n l.toArray (thenK (fun ρ ds L => OW P w0 rd n l.toArray K l2 ρ ds L) K) l1 R ρ ds L) K) l0 [] ρ ds L) : CW P w0 rd n (.region id l.toArray true) K ρ ds L := by
 have := p0.out; subst this
 have := p1.out; subst this
 have := p2.out; subst this
 intro a w hr hs
 simp only [regionOkS, Bool.and_eq_true, decide_eq_true_eq] at hok
 obtain ⟨⟨⟨⟨⟨⟨⟨⟨h1, h2⟩, h3⟩, h4⟩, h5⟩, h50⟩, h6⟩, h7⟩, h8⟩ := hok
 have hpure : ∀ o ∈ pickOps l is0, isEff o = false := fun o ho => by simpa using List.all_eq_true.1 h50 o ho
 have hmem : ∀ {is : List Nat} (o : Oper), o ∈ pickOps l is → dstOk n o = true := fun o ho => Array.all_eq_true_iff_forall_mem.1 h2 o (by simpa using pickOps_mem ho)
 have hin : ∀ {is : List Nat}, ∀ o ∈ pickOps l is, ∃ i : Nat, l.toArray[i]? = some o := fun o ho => by
  obtain ⟨k, hk⟩ := List.mem_iff_getElem?.1 (pickOps_mem ho)
  exact ⟨k, by simpa using hk⟩
 refine wpIn_region_any hm (AnyR.any _ _ [] _ _ ?_)
 refine RDc.anyP (more := is.length + (ks.length + 1)) (last := tick is0 (Array.replicate l.toArray.size false)) (Fin := fun R' a w => FinR w0 n (thenK (fun ρ ds L => ∃ R, (∀ p ∈ R, p ∈ L) ∧ RW P w0 rd n l.toArray (thenK (fun ρ ds L => OW P w0 rd n l.toArray K (pickOps l (k :: ks)) ρ ds L) K) (pickOps l is) R ρ ds L) K) R' a w ∧ R' = [])
  (fence_fn rd) h1 (Kx.steady hK.out) (fun R a w hp hf fuel hfu => ?_) is0 _ _ [] a _ (by omega) rfl h4 (fun _ _ h => (by cases h)) (RDl.rdc is0 _ [] a _ h4 ?_)
 ·obtain ⟨⟨ρ, ds, L, hr, hs, hRL, hw⟩, rfl⟩ := hf
  obtain ⟨R0, hR0, hw⟩ : ∃ R, (∀ p ∈ R, p ∈ L) ∧ RW P w0 rd n l.toArray (thenK (fun ρ ds L => OW P w0 rd n l.toArray K (pickOps l (k :: ks)) ρ ds L) K) (pickOps l is) R ρ ds L := hw
  have hw2 := hw hmem hR0 a w hr hs
  have hw3 := RDl.quit (Q' := Kx w0 n K) (Q := Kx w0 n (thenK (fun ρ ds L => OW P w0 rd n l.toArray K (pickOps l (k :: ks)) ρ ds L) K)) (fun e a w h => h) (fun ⟨a, w, h⟩ => ⟨a, w, h⟩) (pickOps l is) R0 a _ hin hw2
  have hb := RDc.anyB (base := tick is0 (Array.replicate l.toArray.size false)) (more := ks.length + 1) (last := tick is (tick is0 (Array.replicate l.toArray.size false))) (Fin := FinR w0 n (thenK (fun ρ ds L => OW P w0 rd n l.toArray K (pickOps l (k :: ks)) ρ ds L) K))
   (fence_fn rd) h1 (Kx.steady hK.out) (fun R a w hp hf fuel hfu => by
    obtain ⟨ρ, ds, L, hr, hs, hRL, hw⟩ := hf
    have hw : OW P w0 rd n l.toArray K (pickOps l (k :: ks)) ρ ds L := hw
    have h9 := hw (List.all_eq_true.2 fun o ho => hmem o ho) a w hr hs
    exact chain_anyB (k :: ks) fuel _ R a w (by simpa using hfu) h8 (.inr fun k' hk => by
     obtain rfl : k' = k := by simpa using hk.symm
     exact h7) h9) is fuel _ R0 a w (fun i hi => by simpa using List.all_eq_true.1 h6 i hi) hfu rfl h5 (fun b o hb => hs.pn b o (hR0 _ hb)) (RDl.rdc is _ R0 a w h5 hw3)
  have hany := AnyB.anyR _ _ _ _ _ hb
  exact hany
 ·have h12 := h hmem (fun _ h => (by cases h)) a _ hr hs.drew
  exact RDl.keep _ _ _ _ hpure (RDl.quit (Q' := Kx w0 n K) (Q := Kx w0 n (thenK (fun ρ ds L => ∃ R, (∀ p ∈ R, p ∈ L) ∧ RW P w0 rd n l.toArray (thenK (fun ρ ds L => OW P w0 rd n l.toArray K (pickOps l (k :: ks)) ρ ds L) K) (pickOps l is) R ρ ds L) K)) (fun e a w h => h) (fun ⟨a, w, h⟩ => ⟨a, w, h⟩) (pickOps l is0) [] a _ hin h12)
end
section
variable {P : Program} {w0 : World} {rd : Option Nat} {n : Nat} {K : Post} {ρ : Env} {ds : List Deferred} {L R : Chunk} {l : List Oper} {ops : Array Oper} {ty : TypeId} {pos : String} {after : Array Edge}
theorem RW.entryStore {t : TypeId} {x y z : Operand} {m c c' : Nat} {es : List MapEntry} {key w v : Value} {L' : Chunk} {g : Option (Nat × Bool)} [hg : GdT ops ρ g] [hx : EvO ρ x (.map (some m))] [hy : EvO ρ y (.int .i64 (c : Int))] [hz : EvO ρ z v] [hin : InC L m (.map (es ++ [MapEntry.mk key w c]).toArray c')] (ho : ∀ e ∈ es, e.born < c)
  [hu : UpdC L m (.map (es ++ [MapEntry.mk key v c]).toArray c') L'] (next : ∃ R', (∀ p ∈ R, p ∈ R') ∧ (∀ p ∈ R', p ∈ L') ∧ RW P w0 rd n ops K l R' ρ ds L') :
  RW P w0 rd n ops K (⟨none, .entryStore t x y z, ty, pos, after, g⟩ :: l) R ρ ds L :=
 RW.eff hg.out rfl (opuEntry hx hy hz hin ho hu).ef (fun v L'' ⟨h1, h2⟩ => by subst h1 h2; exact next) (fun _ _ h => h.elim)
end
end Go.Pw

namespace Go.Pw
open Go.Sort
section
variable {P : Program} {w0 : World} {rd : Option Nat} {n : Nat} {K : Post} {ρ : Env} {ds : List Deferred} {L R : Chunk} {l : List Oper} {ops : Array Oper} {ty : TypeId} {d : Nat} {pos : String} {after : Array Edge}
end
theorem shrK {x : Int} (k : Nat) (hk : k ≤ 64) : shrV .u64 x (k : Int) = x / ((2 ^ k : Nat) : Int) := by
 unfold shrV
 have e : min (k : Int).toNat IntKind.u64.bits = k := by
  have : (k : Int).toNat = k := by omega
  rw [this]; show min k 64 = k; omega
 rw [e, Int.fdiv_eq_ediv_of_nonneg _ (Int.pow_nonneg (by decide))]
 simp
class AnN (a b : Int) (m : outParam Int) : Prop where out : bitsV .and .u64 a b = m
section
variable {P : Program} {ρ : Env} {L : Chunk} {ty : TypeId}
instance (priority := high) op1AndN {t yt : TypeId} {x y : Operand} {a b m : Int} [hx : EvO ρ x (.int .u64 a)] [hy : EvO ρ y (.int .u64 b)] [hm : AnN a b m] : Op1 P ρ L (.binOp .and t x y yt) ty (.int .u64 m) := ⟨by
 rw [← hm.out]
 exact (op1And (P := P) (ρ := ρ) (L := L) (ty := ty) (t := t) (yt := yt) (x := x) (y := y) (k := .u64) (a := a) (b := b)).yl⟩
end
class ShN (a b : Int) (m : outParam Int) : Prop where out : shrV .u64 a b = m
section
variable {P : Program} {ρ : Env} {L : Chunk} {ty : TypeId}
instance (priority := high) op1ShrN {t yt : TypeId} {x y : Operand} {k' : IntKind} {a b m : Int} [hx : EvO ρ x (.int .u64 a)] [hy : EvO ρ y (.int k' b)] [h : NN b] [hm : ShN a b m] : Op1 P ρ L (.binOp .shr t x y yt) ty (.int .u64 m) := ⟨by
 rw [← hm.out]
 exact yl_shr hx hy h.out⟩
end
end Go.Pw

namespace Go.Pw.Or
open Go Go.Pw
def setI : List Nat → Nat
 | [] => 0
 | k :: o => 1 <<< k ||| setI o
theorem setI_append : ∀ a b : List Nat, setI (a ++ b) = setI a ||| setI b
 | [], b => by simp [setI]
 | k :: a, b => by rw [List.cons_append, setI, setI_append a b, setI, Nat.or_assoc]
theorem setI_mid (A B : List Nat) (k : Nat) : setI (A ++ k :: B) = 1 <<< k ||| setI (A ++ B) := by
 rw [setI_append, setI_append, setI, ← Nat.or_assoc, ← Nat.or_assoc, Nat.or_comm (setI A)]
theorem setI_bit : ∀ (o : List Nat) (i : Nat), (setI o).testBit i = o.contains i
 | [], i => by simp [setI]
 | k :: o, i => by
  rw [setI, Nat.testBit_or, setI_bit o i, Nat.shiftLeft_eq, Nat.one_mul, Nat.testBit_two_pow, List.contains_cons]
  congr 1
  by_cases h : k = i
  ·subst h; simp
  ·have : ¬ i = k := fun e => h e.symm
   simp [h, this]
theorem setI_inj {a b : List Nat} (h : setI a = setI b) (i : Nat) : i ∈ a ↔ i ∈ b := by
 have h1 := setI_bit a i
 have h2 := setI_bit b i
 rw [h, h2] at h1
 rw [List.contains_eq_mem, List.contains_eq_mem] at h1
 simpa using h1.symm
theorem or_i64 {a b : Nat} (ha : a < 2 ^ 16) (hb : b < 2 ^ 16) : bitsV .or .i64 (a : Int) (b : Int) = ((a ||| b : Nat) : Int) := by
 have h := Nat.or_lt_two_pow ha hb
 have e : bitsV .or .i64 (a : Int) (b : Int) = IntKind.i64.wrap ((BitVec.ofInt 64 (a : Int) ||| BitVec.ofInt 64 (b : Int)).toNat : Int) := rfl
 rw [e, BitVec.ofInt_natCast, BitVec.ofInt_natCast, BitVec.toNat_or, BitVec.toNat_ofNat, BitVec.toNat_ofNat, Nat.mod_eq_of_lt (by omega), Nat.mod_eq_of_lt (by omega)]
 exact IntWalk.i64_in _ (by omega)
theorem shl_i64 {k : Nat} (hk : k < 16) : shlV .i64 1 (k : Int) = ((1 <<< k : Nat) : Int) := by
 unfold shlV
 have e : min (k : Int).toNat IntKind.i64.bits = k := by
  have : (k : Int).toNat = k := by omega
  rw [this]; show min k 64 = k; omega
 rw [e, Nat.shiftLeft_eq, Nat.one_mul]
 have h : 2 ^ k < 2 ^ 16 := Nat.pow_lt_pow_right (by decide) hk
 rw [Int.one_mul]
 have e2 : (2 : Int) ^ k = ((2 ^ k : Nat) : Int) := by simp
 rw [e2]
 generalize 2 ^ k = q at h
 exact IntWalk.i64_in (q : Int) (by omega)
theorem zip_key {α β γ : Type} {f : α → γ} {g : β → γ} : ∀ (es : List α) (o : List β), es.map f = o.map g → (∀ z ∈ es.zip o, f z.1 = g z.2) ∧ (es.zip o).map (·.1) = es ∧ (es.zip o).map (·.2) = o
 | [], [], _ => ⟨fun _ h => (by cases h), rfl, rfl⟩
 | [], _ :: _, h => by cases h
 | _ :: _, [], h => by cases h
 | e :: es, k :: o, h => by
  obtain ⟨h1, h2⟩ := List.cons.inj h
  obtain ⟨i1, i2, i3⟩ := zip_key es o h2
  refine ⟨fun z hz => ?_, ?_, ?_⟩
  ·rcases List.mem_cons.1 hz with rfl | hz
   ·exact h1
   ·exact i1 z hz
  ·rw [List.zip_cons_cons, List.map_cons, i2]
  ·rw [List.zip_cons_cons, List.map_cons, i3]
end Go.Pw.Or

namespace Go.Pw.Md
theorem ads_ne {l : List Pc} (hl : l.Pairwise fun p q => p.ad + p.room ≤ q.ad) (hok : ∀ p ∈ l, PcOk p) : l.Pairwise fun p q => p.ad < q.ad := by
 refine List.Pairwise.imp_of_mem (fun {p q} hp hq h => ?_) hl
 have := (hok p hp).room
 omega
theorem WF.rise {m : Mod} (h : WF m) : m.L.Pairwise fun p q => p.ad < q.ad := ads_ne h.apart h.ok
theorem filter_split {A B : List Pc} {p : Pc} (h : (A ++ p :: B).Pairwise fun p q => p.ad < q.ad) : (A ++ p :: B).filter (fun q => decide (q.ad ≠ p.ad)) = A ++ B := by
 rw [List.pairwise_append, List.pairwise_cons] at h
 rw [List.filter_append, List.filter_cons_of_neg (by simp), List.filter_eq_self.2, List.filter_eq_self.2]
 ·intro q hq
  have := h.2.1.1 q hq
  simp only [decide_eq_true_eq]; omega
 ·intro q hq
  have := h.2.2 q hq p (List.mem_cons_self ..)
  simp only [decide_eq_true_eq]; omega
theorem split_at {l : List Pc} {i : Nat} (hi : i < l.length) : l = l.take i ++ l[i] :: l.drop (i + 1) := by
 rw [← List.drop_eq_getElem_cons hi, List.take_append_drop]
theorem without_at {m : Mod} (h : WF m) {i : Nat} (hi : i < m.L.length) : m.without m.L[i].ad = { m with L := m.L.take i ++ m.L.drop (i + 1) } := by
 unfold Mod.without
 congr 1
 have h1 := h.rise
 have h2 := split_at hi
 generalize m.L.take i = A at *
 generalize m.L.drop (i + 1) = B at *
 generalize m.L[i] = p at *
 rw [h2] at h1 ⊢
 exact filter_split h1
theorem ins_last {p : Pc} : ∀ {l : List Pc}, (∀ q ∈ l, ¬ p.ad < q.ad) → ins p l = l ++ [p]
 | [], _ => rfl
 | q :: l, h => by
  unfold ins
  rw [if_neg (h q (List.mem_cons_self ..)), ins_last fun r hr => h r (List.mem_cons_of_mem _ hr)]
  rfl
theorem ins_mid {p q : Pc} {B : List Pc} (hq : p.ad < q.ad) : ∀ {A : List Pc}, (∀ q ∈ A, ¬ p.ad < q.ad) → ins p (A ++ q :: B) = A ++ p :: q :: B
 | [], _ => by simp [ins, hq]
 | r :: A, h => by
  rw [List.cons_append, ins, if_neg (h r (List.mem_cons_self ..)), ins_mid hq fun r hr => h r (List.mem_cons_of_mem _ hr)]
  rfl
theorem ins_app {p : Pc} {B : List Pc} : ∀ {A : List Pc}, (∃ q ∈ A, p.ad < q.ad) → ins p (A ++ B) = ins p A ++ B
 | [], h => by obtain ⟨_, h, _⟩ := h; cases h
 | r :: A, h => by
  rw [List.cons_append, ins, ins]
  split
  ·rfl
  ·rename_i h1
   rw [ins_app (by
    obtain ⟨q, hq, h2⟩ := h
    rcases List.mem_cons.1 hq with rfl | hq
    ·exact absurd h2 h1
    ·exact ⟨q, hq, h2⟩)]
   rfl
theorem ins_map {m : Mod} (h : WF m) {i : Nat} (hi : i < m.L.length) (s : Int) : ins { m.L[i] with size := s } (m.without m.L[i].ad).L = m.L.map fun q => if q.ad = m.L[i].ad then { q with size := s } else q := by
 rw [without_at h hi]
 simp only
 have h1 := h.rise
 have h2 := split_at hi
 generalize m.L.take i = A at *
 generalize m.L.drop (i + 1) = B at *
 generalize m.L[i] = p at *
 rw [h2] at h1 ⊢
 rw [List.pairwise_append, List.pairwise_cons] at h1
 have hA : ∀ q ∈ A, q.ad < p.ad := fun q hq => h1.2.2 q hq p (List.mem_cons_self ..)
 have hB := h1.2.1.1
 rw [List.map_append, List.map_cons, if_pos rfl]
 have eA : A.map (fun q => if q.ad = p.ad then { q with size := s } else q) = A := by
  conv => rhs; rw [← List.map_id A]
  exact List.map_congr_left fun q hq => by rw [if_neg (by have := hA q hq; omega)]; rfl
 have eB : B.map (fun q => if q.ad = p.ad then { q with size := s } else q) = B := by
  conv => rhs; rw [← List.map_id B]
  exact List.map_congr_left fun q hq => by rw [if_neg (by have := hB q hq; omega)]; rfl
 rw [eA, eB]
 cases B with
 | nil =>
  rw [List.append_nil]
  exact ins_last fun q hq => by have := hA q hq; simp only; omega
 | cons q B =>
  exact ins_mid (by have := hB q (List.mem_cons_self ..); simp only; omega) fun q hq => by have := hA q hq; simp only; omega
def upto (a : Int) (bs : List Int) (k : Int) (p : Pc) : Pc := { p with b := overK a bs p.ad (a + k) p.b }
theorem upto_zero (a : Int) (bs : List Int) (p : Pc) : upto a bs 0 p = p := by
 have : (upto a bs 0 p).b = p.b := overK_same fun d _ h => by omega
 have e : upto a bs 0 p = { p with b := (upto a bs 0 p).b } := rfl
 rw [e, this]
theorem upto_out {a : Int} {bs : List Int} {k : Int} {p : Pc} (h : ¬ (p.ad ≤ a + k ∧ a + k < p.ad + p.b.length)) : upto a bs (k + 1) p = upto a bs k p := by
 have : (upto a bs (k + 1) p).b = (upto a bs k p).b := by
  show overK a bs p.ad (a + (k + 1)) p.b = overK a bs p.ad (a + k) p.b
  apply List.ext_getElem?
  intro d
  by_cases hd : d < p.b.length
  ·rw [overK_get hd, overK_get hd]
   congr 1
   by_cases hc : a ≤ p.ad + (d : Int) ∧ p.ad + (d : Int) < a + k
   ·rw [if_pos hc, if_pos (by omega)]
   ·rw [if_neg hc, if_neg (by omega)]
  ·rw [List.getElem?_eq_none (by rw [overK_len]; omega), List.getElem?_eq_none (by rw [overK_len]; omega)]
 have e : upto a bs (k + 1) p = { upto a bs k p with b := (upto a bs (k + 1) p).b } := rfl
 rw [e, this]
theorem upto_in {a : Int} {bs : List Int} {k : Nat} {p : Pc} (hk : k < bs.length) (h1 : p.ad ≤ a + k) (h2 : a + k < p.ad + p.b.length) : upto a bs (k + 1) p = { p with b := (overK a bs p.ad (a + k) p.b).set (a + k - p.ad).toNat bs[k] } := by
 have := overK_step (bs := bs) (show a ≤ a + k by omega) h1 h2
 have e : upto a bs (k + 1) p = { p with b := overK a bs p.ad (a + k + 1) p.b } := by unfold upto; rw [Int.add_assoc]
 rw [e, this, show (a + (k : Int) - a).toNat = k by omega, List.getD_eq_getElem?_getD, List.getElem?_eq_getElem hk]
 rfl
theorem upto_none {m : Mod} (h : WF m) {a : Int} {bs : List Int} {k : Nat} (hn : m.inn (a + k) = none) : m.L.map (upto a bs ((k + 1 : Nat) : Int)) = m.L.map (upto a bs k) :=
 List.map_congr_left fun p hp => by
  rw [Int.natCast_add]
  exact upto_out (by have := inn_none hn p hp; have := (h.ok p hp).len; omega)
theorem upto_set {m : Mod} (h : WF m) {a : Int} {bs : List Int} {k i : Nat} (hi : i < m.L.length) (h1 : m.L[i].ad ≤ a + k) (h2 : a + k < m.L[i].ad + m.L[i].room) : m.L.map (upto a bs ((k + 1 : Nat) : Int)) = (m.L.map (upto a bs k)).set i (upto a bs ((k + 1 : Nat) : Int) m.L[i]) := by
 apply List.ext_getElem?
 intro j
 rw [List.getElem?_set, List.getElem?_map]
 by_cases hj : i = j
 ·subst hj
  rw [if_pos rfl, if_pos (by simpa using hi), List.getElem?_eq_getElem hi]
  rfl
 ·rw [if_neg hj, List.getElem?_map]
  by_cases hl : j < m.L.length
  ·rw [List.getElem?_eq_getElem hl]
   simp only [Option.map_some]
   rw [Int.natCast_add]
   congr 1
   refine upto_out fun h3 => hj ?_
   have hok := h.ok _ (List.getElem_mem hl)
   rw [hok.len] at h3
   have h4 := apart_in h (List.getElem_mem hi) (List.getElem_mem hl) ⟨h1, h2⟩ h3
   have h5 := List.pairwise_iff_getElem.1 h.rise
   rcases Nat.lt_trichotomy i j with h6 | h6 | h6
   ·have := h5 i j hi hl h6; rw [h4] at this; omega
   ·exact h6
   ·have := h5 j i hl hi h6; rw [h4] at this; omega
  ·rw [List.getElem?_eq_none (by omega)]
   rfl
def agK (L : List Pc) (a : Int) (bs : List Int) (k : Int) : Prop := ∀ p ∈ L, agreesK a bs p.ad (a + k) p.b
theorem agK_zero (L : List Pc) (a : Int) (bs : List Int) : agK L a bs 0 := fun p _ d _ h1 h2 => by omega
theorem agK_all (L : List Pc) (a : Int) (bs : List Int) : agK L a bs bs.length ↔ ∀ p ∈ L, agrees a bs p := Iff.rfl
theorem agK_none {m : Mod} (h : WF m) {a : Int} {bs : List Int} {k : Nat} (hn : m.inn (a + k) = none) : agK m.L a bs ((k + 1 : Nat) : Int) ↔ agK m.L a bs k := by
 constructor
 ·intro g p hp d hd h1 h2
  exact g p hp d hd h1 (by omega)
 ·intro g p hp d hd h1 h2
  refine g p hp d hd h1 ?_
  have := inn_none hn p hp
  have := (h.ok p hp).len
  omega
theorem agK_some {m : Mod} (h : WF m) {a : Int} {bs : List Int} {k i d : Nat} (hk : k < bs.length) (hi : i < m.L.length) (hd : d < m.L[i].b.length) (he : m.L[i].ad + (d : Int) = a + k) : agK m.L a bs ((k + 1 : Nat) : Int) ↔ agK m.L a bs k ∧ (m.L[i].b[d] = -1 ∨ m.L[i].b[d] = bs[k]) := by
 have hb : bs.getD (a + (k : Int) - a).toNat 0 = bs[k] := by rw [show (a + (k : Int) - a).toNat = k by omega, List.getD_eq_getElem?_getD, List.getElem?_eq_getElem hk]; rfl
 have hok := h.ok _ (List.getElem_mem hi)
 have hl := hok.len
 have key : ∀ p ∈ m.L, p ≠ m.L[i] → (agreesK a bs p.ad (a + ((k + 1 : Nat) : Int)) p.b ↔ agreesK a bs p.ad (a + k) p.b) := fun p hp hne => by
  constructor
  ·intro g d hd h1 h2
   exact g d hd h1 (by omega)
  ·intro g e hd h1 h2
   refine g e hd h1 ?_
   have := (h.ok p hp).len
   rcases Classical.em (p.ad + (e : Int) = a + k) with h3 | h3
   ·exact absurd (apart_in h (List.getElem_mem hi) hp (a := a + k) (by omega) (by omega)) hne
   ·omega
 have hi1 := agreesK_step (bs := bs) (show a ≤ a + k by omega) (show m.L[i].ad ≤ a + k by omega) hd (by omega)
 rw [hb, Int.add_assoc, show (k : Int) + 1 = ((k + 1 : Nat) : Int) by omega] at hi1
 constructor
 ·intro g
  have g1 := hi1.1 (g _ (List.getElem_mem hi))
  refine ⟨fun p hp => ?_, g1.2⟩
  by_cases hp1 : p = m.L[i]
  ·rw [hp1]; exact g1.1
  ·exact (key p hp hp1).1 (g p hp)
 ·intro g p hp
  by_cases hp1 : p = m.L[i]
  ·rw [hp1]; exact hi1.2 ⟨g.1 _ (List.getElem_mem hi), g.2⟩
  ·exact (key p hp hp1).2 (g.1 p hp)
theorem agK_mono {L : List Pc} {a : Int} {bs : List Int} {k j : Int} (h : agK L a bs k) (hj : j ≤ k) : agK L a bs j := fun p hp d hd h1 h2 => h p hp d hd h1 (by omega)
def PlR (f : Pc → Prop) (l : List Pc) (j : Int) : Prop := (j = -1 ∧ ∀ p ∈ l, ¬ f p) ∨ ∃ i : Nat, ∃ h : i < l.length, j = i ∧ f l[i]
theorem perm_eq {m m' : Mod} (h : WF m) (h' : WF m') (hp : m.L.Perm m'.L) : m.L = m'.L :=
 List.Perm.eq_of_pairwise (le := fun p q : Pc => p.ad < q.ad) (fun a b _ _ h1 h2 => by omega) h.rise h'.rise hp
end Go.Pw.Md

namespace Go.Pw.Md
open Go.Pw.Sc
@[reducible] def pcC (p : Pc) (v : Value) : List Value := [.int .u32 p.ad, .int .i64 p.size, .int .i64 p.room, v]
def PcR (L : Chunk) (c : List Value) (p : Pc) : Prop := ∃ v, c = pcC p v ∧ Rd L 1 v p.b.length (iv p.b)
theorem PcR.to {L L' : Chunk} [hm : MemC L L'] (c : List Value) (p : Pc) (h : PcR L c p) : PcR L' c p := let ⟨v, a, b⟩ := h; ⟨v, a, b.to⟩
abbrev RL (L : Chunk) (v : Value) (ps : List Pc) : Prop := LS 4 PcR L v ps
theorem RL.to' {L L' : Chunk} {v : Value} {ps : List Pc} (h : RL L v ps) [hm : MemC L L'] : RL L' v ps := LS.to h (fun c a h => PcR.to c a h)
theorem LS.of_row {α : Type} {s : Nat} {R : Chunk → List Value → α → Prop} {e : TypeId} {N D L : Chunk} {v : Value} {ags : List α} {xs : List Value} (h : Row e s N v ags.length xs) (hl : LAt s (R D) xs ags) (hn : (ags.length : Int) ≤ 9223372036854775807) (hN : ∀ p ∈ N, p ∈ L) (hR : ∀ c a, R D c a → R L c a) : LS s R L v ags :=
 ⟨⟨xs, h.rd.mono hN, hl.mono hR⟩, hn⟩
@[reducible] def mV (m : Mod) (v : Value) : Value := .agg #[.int .i64 m.slot, .int .i64 m.quota, v]
def RNew (D L : Chunk) (ps : List Pc) (v : Value) (L' : Chunk) : Prop := ∃ N, L' = N ++ L ∧ RL (N ++ D) v ps
class Pre (L' L : Chunk) (X : outParam Chunk) : Prop where out : L' = X ++ L
instance (priority := high) preRefl {L : Chunk} : Pre L L [] := ⟨rfl⟩
instance preCons {L L' X : Chunk} {p : Nat × Obj} [h : Pre L' L X] : Pre (p :: L') L (p :: X) := ⟨by rw [h.out]; rfl⟩
instance preApp {L L' X N : Chunk} [h : Pre L' L X] : Pre (N ++ L') L (N ++ X) := ⟨by rw [h.out, List.append_assoc]⟩
def DoR (D L : Chunk) (r : Mod × Bool) (u : Value) (L' : Chunk) : Prop :=
 ∃ m' v' N, u = .tuple #[mV m' v', .bool r.2] ∧ L' = N ++ L ∧ Sng v' ∧ (r.2 = true → m' = r.1 ∧ RL (N ++ D) v' m'.L)
theorem DoR.same {D L : Chunk} {m : Mod} {v : Value} {b : Bool} (h : RL D v m.L) : DoR D L (m, b) (.tuple #[mV m v, .bool b]) L := ⟨m, v, [], rfl, rfl, h.sng, fun _ => ⟨rfl, h⟩⟩
theorem LAt.take {α : Type} {s : Nat} {R : List Value → α → Prop} : ∀ {xs : List Value} {ags : List α} (i : Nat), LAt s R xs ags → LAt s R (xs.take (i * s)) (ags.take i)
 | xs, [], i, h => by have : xs = [] := h; subst this; simp; exact rfl
 | _, _ :: _, 0, h => by simp; exact rfl
 | _, a :: ags, i + 1, ⟨c, r, e, h0, h1, h2⟩ => by
  refine ⟨c, r.take (i * s), ?_, h0, h1, LAt.take i h2⟩
  rw [e, show (i + 1) * s = c.length + i * s by rw [h0, Nat.add_mul]; omega, List.take_length_add_append]
theorem LAt.drop {α : Type} {s : Nat} {R : List Value → α → Prop} : ∀ {xs : List Value} {ags : List α} (i : Nat), LAt s R xs ags → LAt s R (xs.drop (i * s)) (ags.drop i)
 | xs, [], i, h => by have : xs = [] := h; subst this; simp; exact rfl
 | _, _ :: _, 0, h => by simpa using h
 | _, a :: ags, i + 1, ⟨c, r, e, h0, h1, h2⟩ => by
  rw [e, show (i + 1) * s = c.length + i * s by rw [h0, Nat.add_mul]; omega, ← List.drop_drop, List.drop_left]
  exact LAt.drop i h2
theorem LAt.set {α : Type} {s : Nat} {R : List Value → α → Prop} : ∀ {xs : List Value} {ags : List α} (i : Nat) {c : List Value} {a : α}, i < ags.length → LAt s R xs ags → c.length = s → R c a → LAt s R (xs.take (i * s) ++ c ++ xs.drop ((i + 1) * s)) (ags.set i a)
 | _, _ :: ts, 0, c', a', _, ⟨c, r, e, h0, h1, h2⟩, hc, hR => by
  refine ⟨c', r, ?_, hc, hR, h2⟩
  rw [e, ← h0, Nat.zero_mul, List.take_zero, List.nil_append, Nat.zero_add, Nat.one_mul, List.drop_left]
 | _, b :: ts, i + 1, c', a', hi, ⟨c, r, e, h0, h1, h2⟩, hc, hR => by
  have h3 := LAt.set i (by simpa using hi) h2 hc hR
  refine ⟨c, _, ?_, h0, h1, h3⟩
  rw [e, show (i + 1) * s = c.length + i * s by rw [h0, Nat.add_mul]; omega, List.take_length_add_append, show (i + 1 + 1) * s = c.length + (i + 1) * s by rw [h0]; simp only [Nat.add_mul]; omega, ← List.drop_drop, List.drop_left]
  simp only [List.append_assoc]
  rw [h0, show (i + 1) * s = s + i * s by rw [Nat.add_mul]; omega]
theorem find_pl {m : Mod} (h : WF m) {a j : Int} (hj : PlR (fun p => p.ad = a) m.L j) : (j = -1 ∧ m.find a = none) ∨ ∃ i : Nat, ∃ hi : i < m.L.length, j = i ∧ m.find a = some m.L[i] ∧ m.L[i].ad = a := by
 rcases hj with ⟨rfl, hn⟩ | ⟨i, hi, rfl, hf⟩
 ·exact .inl ⟨rfl, List.find?_eq_none.2 fun p hp => by simpa using hn p hp⟩
 ·exact .inr ⟨i, hi, rfl, by rw [← hf]; exact find_of h (List.getElem_mem hi), hf⟩
theorem inn_pl {m : Mod} (h : WF m) {a j : Int} (hj : PlR (fun p => p.ad ≤ a ∧ a < p.ad + p.room) m.L j) : (j = -1 ∧ m.inn a = none) ∨ ∃ i : Nat, ∃ hi : i < m.L.length, j = i ∧ m.inn a = some m.L[i] ∧ m.L[i].ad ≤ a ∧ a < m.L[i].ad + m.L[i].room := by
 rcases hj with ⟨rfl, hn⟩ | ⟨i, hi, rfl, hf⟩
 ·exact .inl ⟨rfl, List.find?_eq_none.2 fun p hp => by simpa using hn p hp⟩
 ·exact .inr ⟨i, hi, rfl, inn_of h (List.getElem_mem hi) hf, hf⟩
end Go.Pw.Md

namespace Go.Pw
theorem eq_three {P : Program} {t t1 t2 t3 : TypeId} {k1 k2 k3 : IntKind} {f1 f2 f3 : Field} (hf : P.underlying t = some (.struct #[f1, f2, f3])) (h1 : f1.type = t1 ∧ f1.offset = 0 ∧ f1.name ≠ "_") (h2 : f2.type = t2 ∧ f2.offset = 1 ∧ f2.name ≠ "_") (h3 : f3.type = t3 ∧ f3.offset = 2 ∧ f3.name ≠ "_")
  [u1 : Und P t1 (.int k1)] [u2 : Und P t2 (.int k2)] [u3 : Und P t3 (.int k3)] [a1 : Agg P t1 false] [a2 : Agg P t2 false] [a3 : Agg P t3 false]
  (hs : P.stoodInHeld t = false) (w : World) (a b e c d g : Int) : (Op.equalIn 10000 t (.agg #[.int k1 a, .int k2 b, .int k3 e]) (.agg #[.int k1 c, .int k2 d, .int k3 g])).run P w = .ok (decide (a = c ∧ b = d ∧ e = g)) w := by
 have hfo : P.fieldsOf t = #[f1, f2, f3] := by simp [Program.fieldsOf, hf]
 rw [run_equalIn_struct w 9999 t _ _ (by rw [hfo]; exact hf) hs, hfo]
 have e1 : (Op.equalIn 9999 t1 (.int k1 a) (.int k1 c)).run P w = .ok (a == c) w := run_equalIn_int (P := P) w 9998 t1 k1 k1 a c u1.out
 have e2 : (Op.equalIn 9999 t2 (.int k2 b) (.int k2 d)).run P w = .ok (b == d) w := run_equalIn_int (P := P) w 9998 t2 k2 k2 b d u2.out
 have e3 : (Op.equalIn 9999 t3 (.int k3 e) (.int k3 g)).run P w = .ok (e == g) w := run_equalIn_int (P := P) w 9998 t3 k3 k3 e g u3.out
 have p1 : (part t1 #[.int k1 a, .int k2 b, .int k3 e] 0).run P w = .ok (.int k1 a) w := run_partInt (l := [.int k1 a, .int k2 b, .int k3 e])
 have p2 : (part t2 #[.int k1 a, .int k2 b, .int k3 e] 1).run P w = .ok (.int k2 b) w := run_partInt (l := [.int k1 a, .int k2 b, .int k3 e])
 have p3 : (part t3 #[.int k1 a, .int k2 b, .int k3 e] 2).run P w = .ok (.int k3 e) w := run_partInt (l := [.int k1 a, .int k2 b, .int k3 e])
 have p4 : (part t1 #[.int k1 c, .int k2 d, .int k3 g] 0).run P w = .ok (.int k1 c) w := run_partInt (l := [.int k1 c, .int k2 d, .int k3 g])
 have p5 : (part t2 #[.int k1 c, .int k2 d, .int k3 g] 1).run P w = .ok (.int k2 d) w := run_partInt (l := [.int k1 c, .int k2 d, .int k3 g])
 have p6 : (part t3 #[.int k1 c, .int k2 d, .int k3 g] 2).run P w = .ok (.int k3 g) w := run_partInt (l := [.int k1 c, .int k2 d, .int k3 g])
 simp only [Op.eqFields, h1.1, h1.2.1, h1.2.2, h2.1, h2.2.1, h2.2.2, h3.1, h3.2.1, h3.2.2, ne_eq, not_false_eq_true, if_true, Sem.run_bind, p1, p2, p3, p4, p5, p6, Result.andThen_ok, e1, e2, e3, Sem.run_ite]
 have f1' : (a == c) = decide (a = c) := beq_dec a c
 have f2' : (b == d) = decide (b = d) := beq_dec b d
 have f3' : (e == g) = decide (e = g) := beq_dec e g
 rw [f1', f2', f3']
 by_cases ha : a = c <;> by_cases hb : b = d <;> by_cases he : e = g <;> simp [ha, hb, he]
section
variable {P : Program} {w0 : World} {f : FuncId} {fn : Func} {c : Code} {n : Nat} {L : Chunk} {Φ : Value → Chunk → Prop} {Ψ : List PanicEntry → Chunk → Prop}
theorem Spec.enter7 {v0 v1 v2 v3 v4 v5 v6 : Value} (hf : P.funcs[f]? = some fn) (hb : fn.body = some c) (hn : fn.ntmps = n) (hle : 7 ≤ n) (h : CW P w0 none n c (bodyK P fn Φ Ψ) (upd (upd (upd (upd (upd (upd (upd und 0 v0) 1 v1) 2 v2) 3 v3) 4 v4) 5 v5) 6 v6) [] L) : Spec P w0 f [v0, v1, v2, v3, v4, v5, v6] L Φ Ψ :=
 Spec.enter hf hb hn hle (fun t => by rcases t with _ | _ | _ | _ | _ | _ | _ | t <;> simp [upd, und]) h
end
end Go.Pw

namespace Go.Pw.Or
open Go.Pw.Sc Go.Pw.Md
theorem free_set {l : List Td} {o o' : List Nat} (h : ∀ i, i ∈ o ↔ i ∈ o') (i : Nat) : freeP l o i = freeP l o' i := by
 have hc : ∀ j, o.contains j = o'.contains j := fun j => by
  rw [List.contains_eq_mem, List.contains_eq_mem]
  exact decide_eq_decide.2 (h j)
 unfold freeP
 cases l[i]? with
 | none => rfl
 | some x =>
  simp only [hc]
theorem some_any {α β : Type} (g : α → Option β) : ∀ l : List α, (l.findSome? g).isSome = l.any fun x => (g x).isSome
 | [] => rfl
 | x :: l => by
  rw [List.findSome?_cons, List.any_cons]
  cases hg : g x with
  | none => simp [some_any g l]
  | some b => simp
theorem srch_set {l : List Td} : ∀ (f : Nat) (m : Mod) (o o' : List Nat), (∀ i, i ∈ o ↔ i ∈ o') → o.length = o'.length → (srch l f m o).isSome = (srch l f m o').isSome
 | 0, _, _, _, _, _ => rfl
 | f + 1, m, o, o', h, hl => by
  rw [srch, srch, hl]
  by_cases hf : o'.length = l.length
  ·rw [if_pos hf, if_pos hf]; rfl
  ·rw [if_neg hf, if_neg hf, some_any, some_any]
   congr 1
   funext i
   rw [free_set h i]
   by_cases hc : (freeP l o' i && mayP l m i) = true
   ·rw [if_pos hc, if_pos hc]
    exact srch_set f _ _ _ (fun j => by simp [h j]) (by simp [hl])
   ·rw [if_neg hc, if_neg hc]
def NoWay (l : List Td) (s : Nat) (m : Mod) : Prop := ∀ o : List Nat, o.Nodup → setI o = s → srch l (l.length + 1 - o.length) m o = none
theorem same_len {o o' : List Nat} (h1 : o.Nodup) (h2 : o'.Nodup) (h : setI o = setI o') : (∀ i, i ∈ o ↔ i ∈ o') ∧ o.length = o'.length := by
 have hm := setI_inj h
 exact ⟨hm, ((List.perm_ext_iff_of_nodup h1 h2).2 hm).length_eq⟩
theorem noWay {l : List Td} {o : List Nat} {m : Mod} (ho : o.Nodup) (h : srch l (l.length + 1 - o.length) m o = none) : NoWay l (setI o) m := fun o' ho' hs => by
 obtain ⟨hm, hl⟩ := same_len ho' ho hs
 have := srch_set (l := l) (l.length + 1 - o'.length) m o' o hm hl
 rw [hl, h] at this
 rw [hl]
 cases hq : srch l (l.length + 1 - o.length) m o' with
 | none => rfl
 | some x => rw [hq] at this; cases this
def Tb (n : Nat) : Nat → Nat
 | 0 => 0
 | f + 1 => n * Tb n f + 1
theorem Tb_mono {n m : Nat} (h : n ≤ m) : ∀ f, Tb n f ≤ Tb m f
 | 0 => Nat.le_refl _
 | f + 1 => by
  have := Nat.mul_le_mul h (Tb_mono h f)
  unfold Tb; omega
theorem Tb_up (n : Nat) (hn : 1 ≤ n) : ∀ {f g : Nat}, f ≤ g → Tb n f ≤ Tb n g := by
 have step : ∀ f, Tb n f ≤ Tb n (f + 1) := fun f => by
  have : 1 * Tb n f ≤ n * Tb n f := Nat.mul_le_mul_right _ hn
  show Tb n f ≤ n * Tb n f + 1
  omega
 intro f g h
 induction h with
 | refl => exact Nat.le_refl _
 | step _ ih => exact Nat.le_trans ih (step _)
theorem Tb_10 {n f : Nat} (h : n ≤ 10) (hf : f ≤ 11) : Tb n f ≤ 11111111111 := by
 have h1 := Tb_mono h f
 have h2 := Tb_up 10 (by decide) hf
 have h3 : Tb 10 11 = 11111111111 := by decide
 omega
end Go.Pw.Or

namespace Go.Pw
section
variable {P : Program} {w0 : World} {rd : Option Nat} {n : Nat} {K : Post} {ρ : Env} {ds : List Deferred} {L R : Chunk} {l : List Oper} {ops : Array Oper} {ty : TypeId} {d : Nat} {pos : String} {after : Array Edge}
theorem RW.lookD {t kt et : TypeId} {x y : Operand} {k k' : IntKind} {j : Int} {m c : Nat} {es : List MapEntry} {z v : Value} {g : Option (Nat × Bool)} [hg : GdT ops ρ g] [ht : Und P t (.map kt et)] [hk : Und P kt (.int k')] [hz : Zer P et z] [hx : EvO ρ x (.map (some m))] [hy : EvO ρ y (.int k j)] [hin : InC R m (.map es.toArray c)] (hes : keysI k es)
  (hv : (findI es j).getD z = v) (next : RW P w0 rd n ops K l R (upd ρ d v) ds L) : RW P w0 rd n ops K (⟨some d, .lookup t x y false, ty, pos, after, g⟩ :: l) R ρ ds L := by
 have h := yl_lookup (P := P) (L := R) (ty := ty) ht hk hz hx hy hin hes
 rw [hv] at h
 exact RW.y h rfl next
theorem RW.aM {v : Nat → Value} {o : Obj} {op : Op} {g : Option (Nat × Bool)} [hg : GdT ops ρ g] [h : OpA P ρ L op ty v o] [hR : MemC R L] (next : ∀ b, RW P w0 rd n ops K l R (upd ρ d (v b)) ds ((b, o) :: L)) (he : isEff ⟨some d, op, ty, pos, after, g⟩ = true := by rfl) : RW P w0 rd n ops K (⟨some d, op, ty, pos, after, g⟩ :: l) R ρ ds L :=
 RW.eff hg.out he h.ef (fun v L' ⟨b, h1, h2⟩ => by subst h1 h2; exact ⟨R, fun _ h => h, fun p hp => List.mem_cons_of_mem _ (hR.out p hp), next b⟩) (fun _ _ h => h.elim)
end
end Go.Pw

namespace Go.Pw
class DelP (L N : Chunk) (L1 : outParam Chunk) : Prop where out : L.Perm (N ++ L1)
instance (priority := high) delPHere {N B : Chunk} : DelP (N ++ B) N B := ⟨List.Perm.refl _⟩
instance delPCons {L N L1 : Chunk} {p : Nat × Obj} [h : DelP L N L1] : DelP (p :: L) N (p :: L1) := ⟨(h.out.cons p).trans List.perm_middle.symm⟩
instance delPRight {A L N L1 : Chunk} [h : DelP L N L1] : DelP (A ++ L) N (A ++ L1) := ⟨(List.Perm.append_left A h.out).trans (by
 rw [← List.append_assoc, ← List.append_assoc]
 exact List.Perm.append_right L1 List.perm_append_comm)⟩
class PermC (L L' : Chunk) : Prop where out : L.Perm L'
instance (priority := high) permRefl {L : Chunk} : PermC L L := ⟨List.Perm.refl L⟩
instance permCons {L L' L1 : Chunk} {b : Nat} {o : Obj} [h1 : DelC L' b o L1] [h2 : PermC L L1] : PermC ((b, o) :: L) L' := ⟨by
 obtain ⟨A, B, rfl, rfl⟩ := h1.out
 exact (h2.out.cons _).trans List.perm_middle.symm⟩
instance permApp {N L L' L1 : Chunk} [h1 : DelP L' N L1] [h2 : PermC L L1] : PermC (N ++ L) L' := ⟨(List.Perm.append_left N h2.out).trans h1.out.symm⟩
instance permNil {L L' : Chunk} [h : PermC L L'] : PermC ([] ++ L) L' := ⟨h.out⟩
end Go.Pw

namespace Go.Pw
section
variable {P : Program} {w0 : World} {n : Nat} {K : Post} {ρ : Env} {ds : List Deferred} {L : Chunk}
def SeqV (P : Program) (fv : Value) (D : Chunk) (xs : List (List Value)) : Prop :=
 ∀ (yv : Value) (J : Nat → Chunk → Prop) (E : Chunk → Prop) (L : Chunk), Sng yv → J 0 L → (∀ L', E L' → MemC D L') →
  (∀ i L', J i L' → MemC D L' ∧ (i = xs.length → E L') ∧ ∀ h : i < xs.length, ∀ M, VP P yv xs[i] (M ++ L') (fun u L'' => ∃ L3, L'' = M ++ L3 ∧ ((u = .bool true ∧ J (i + 1) L3) ∨ (u = .bool false ∧ E L3))) noPanic) →
  VP P fv [yv] L (fun _ L' => E L') noPanic
theorem SeqV.to {fv : Value} {D D' : Chunk} {xs : List (List Value)} (h : SeqV P fv D xs) [hm : MemC D D'] : SeqV P fv D' xs :=
 fun yv J E L sy h0 hE hJ => h yv J E L sy h0 (fun L' h' => ⟨fun p hp => (hE L' h').out p (hm.out p hp)⟩) fun i L' hj => ⟨⟨fun p hp => (hJ i L' hj).1.out p (hm.out p hp)⟩, (hJ i L' hj).2⟩
theorem VP.fn {f : FuncId} {first cap : Array Value} {args : List Value} {Φ : Value → Chunk → Prop} {Ψ : List PanicEntry → Chunk → Prop} (h : VP P (.func (.func f) first cap) args L Φ Ψ) : Spec P w0 f (first.toList ++ args ++ cap.toList) L Φ Ψ := fun w hs => by
 rcases h w0 w hs with ⟨f', first', cap', e, _, hc⟩ | ⟨l, fn, tmps, as_, bo, e, _⟩
 ·cases e; exact hc
 ·cases e
theorem SeqV.vp {fv : Value} {D : Chunk} {xs : List (List Value)} (h : SeqV P fv D xs) {yv : Value} [sy : Sng yv] (J : Nat → Chunk → Prop) (E : Chunk → Prop) (h0 : J 0 L) (hE : ∀ L', E L' → MemC D L')
  (hJ : ∀ i L', J i L' → MemC D L' ∧ (i = xs.length → E L') ∧ ∀ h : i < xs.length, ∀ M, VP P yv xs[i] (M ++ L') (fun u L'' => ∃ L3, L'' = M ++ L3 ∧ ((u = .bool true ∧ J (i + 1) L3) ∨ (u = .bool false ∧ E L3))) noPanic)
  {Φ : Value → Chunk → Prop} (hΦ : ∀ L' u, E L' → Φ u L') : VP P fv [yv] L Φ noPanic := (h yv J E L sy h0 hE hJ).mono (fun u L' h => hΦ L' u h) (fun _ _ h => h)
end
end Go.Pw

namespace Go.Pw.Or
open Go.Pw.Sc Go.Pw.Md
end Go.Pw.Or

namespace Go.Pw.Or
end Go.Pw.Or

namespace Go.Pw.Or
open Go Go.Pw
class NthO' (k n : Nat) : Prop where out : k < n
def flagsL (n : Nat) (o : List Nat) : List Value := (List.range n).map fun k => .bool (o.contains k)
instance flagNth {n : Nat} {o : List Nat} {k : Nat} [h : NthO' k n] : NthL (flagsL n o) k (.bool (o.contains k)) := ⟨by
 unfold flagsL
 rw [List.getElem?_map, List.getElem?_range h.out]; rfl⟩
end Go.Pw.Or

namespace Go.Pw.Jd
open Go.Pw.Sc Go.Pw.Md
structure Rp where
 errno : Int
 hslot : Int
 hgen : Int
 count : Int
 dkind : Int
 dat : Int
 done : Bool
 oerrno : Int
 oad : Int
 on : Int
 obytes : List Int
 deriving DecidableEq
abbrev Hd := Int × Int
abbrev Bnd := Int → Option Hd
def bindStep (b : Bnd) (t : Turn) (r : Rp) : Bnd :=
 if r.errno = 0 ∧ t.kind = 2 then fun n => if b n = some (t.hslot, t.hgen) then none else b n
 else if r.errno = 0 ∧ (0 ≤ t.thread ∧ t.thread < 4) ∧ t.kind = 3 then fun n => if n = t.thread then (if (t.hslot, t.hgen) = (0, 0) then none else some (t.hslot, t.hgen)) else b n
 else if r.errno = 0 ∧ (0 ≤ t.thread ∧ t.thread < 4) ∧ t.kind = 4 then fun n => if n = t.thread then none else b n
 else b
def bnd : List (Turn × Rp) → Bnd := List.foldl (fun b x => bindStep b x.1 x.2) fun _ => none
structure Row where
 t : Turn
 r : Rp
 at_ : Nat
 b : Bnd
def rowAt (l : List (Turn × Rp)) (i : Nat) (x : Turn × Rp) : Row := ⟨x.1, x.2, i, bnd (l.take i)⟩
def rows (l : List (Turn × Rp)) : List Row := l.zipIdx.map fun x => rowAt l x.2 x.1
theorem bnd_snoc (l : List (Turn × Rp)) (x : Turn × Rp) : bnd (l ++ [x]) = bindStep (bnd l) x.1 x.2 := by simp [bnd]
theorem rows_length (l : List (Turn × Rp)) : (rows l).length = l.length := by simp [rows]
theorem rows_get (l : List (Turn × Rp)) {i : Nat} (hi : i < l.length) : (rows l)[i]? = some (rowAt l i l[i]) := by
 simp [rows, List.getElem?_zipIdx, List.getElem?_eq_getElem hi]
theorem rows_snoc (l : List (Turn × Rp)) (x : Turn × Rp) : rows (l ++ [x]) = rows l ++ [⟨x.1, x.2, l.length, bnd l⟩] := by
 apply List.ext_getElem?
 intro i
 by_cases hi : i < l.length
 ·rw [rows_get _ (by simp; omega), List.getElem?_append_left (by rw [rows_length]; exact hi), rows_get _ hi, List.getElem_append_left hi]
  simp [rowAt, List.take_append_of_le_length (Nat.le_of_lt hi)]
 ·rw [List.getElem?_append_right (by rw [rows_length]; omega), rows_length]
  by_cases he : i = l.length
  ·subst he
   rw [rows_get _ (by simp)]
   simp [rowAt]
  ·rw [List.getElem?_eq_none (by rw [rows_length]; simp; omega), List.getElem?_eq_none (by simp; omega)]
def fine (k : Int) (w : Row) : Prop := w.t.kind = k ∧ w.r.errno = 0
instance (k : Int) (w : Row) : Decidable (fine k w) := by unfold fine; infer_instance
def isThread (n : Int) : Prop := 0 ≤ n ∧ n < 4
instance (n : Int) : Decidable (isThread n) := by unfold isThread; infer_instance
def creates (x : Hd) (w : Row) : Bool := decide (fine 1 w ∧ (w.r.hslot, w.r.hgen) = x ∧ 0 ≤ w.t.quota ∧ w.t.quota ≤ 1073741824)
def quotaOf (l : List Row) (x : Hd) : Int × Bool :=
 match l.find? (creates x) with
 | some w => (w.t.quota, decide (1 ≤ x.2 ∧ 0 ≤ x.1 ∧ x.1 < 4))
 | none => (0, false)
def whose (w : Row) (n : Int) (x : Hd) : Prop := (w.b n).getD (0, 0) = x
instance (w : Row) (n : Int) (x : Hd) : Decidable (whose w n x) := by unfold whose; infer_instance
structure Cl where
 op : OpM
 work : Int
 told : Bool
 out : OutM
 steps : Int
def opOf (t : Turn) : OpM := ⟨t.okind, t.oat, t.osize, t.omult, t.omany, t.obytes⟩
def outOf (r : Rp) : OutM := ⟨r.oerrno, r.oad, r.on, r.obytes⟩
def clStep (c : Cl) (k : Nat) (r : Rp) : Cl :=
 ⟨c.op, if r.dkind = 3 ∧ c.work < 0 then k else c.work, if r.done then true else c.told, if r.done then outOf r else c.out, if r.dkind ≠ 1 then c.steps + 1 else c.steps⟩
def scan (n : Int) (x : Hd) : List Row → Nat → Cl → Cl
 | [], _, c => c
 | w :: l, k, c =>
  if ¬ whose w n x then c
  else if w.t.thread = n ∧ fine 6 w then (if w.r.done then clStep c k w.r else scan n x l (k + 1) (clStep c k w.r))
  else scan n x l (k + 1) c
def begins (x : Hd) (w : Row) : Bool := decide (fine 5 w ∧ isThread w.t.thread ∧ whose w w.t.thread x)
def callsOf (x : Hd) : List Row → Nat → List Cl
 | [], _ => []
 | w :: l, k => if begins x w then scan w.t.thread x l (k + 1) ⟨opOf w.t, -1, false, okO, 0⟩ :: callsOf x l (k + 1) else callsOf x l (k + 1)
def verdict : Mod → List Cl → Int × Int
 | _, [] => (0, 0)
 | m, c :: l =>
  if c.told = false then (if c.op.kind = 5 ∨ c.op.kind = 6 then verdict m l else (2, c.work))
  else if (Md.next m c.op c.out).2 then verdict (Md.next m c.op c.out).1 l else (1, c.work)
end Go.Pw.Jd

namespace Go.Pw.Jd
open Go.Pw.Sc Go.Pw.Md

@[reducible] def rcells (r : Rp) (vo : Value) : List Value := [.int .i64 r.errno, .int .i64 r.hslot, .int .i64 r.hgen, .int .i64 r.count, .int .i64 r.dkind, .int .i64 r.dat, .bool r.done, .int .i64 r.oerrno, .int .u32 r.oad, .int .i64 r.on, vo]
structure RR (r : Rp) : Prop where
  errno : inR .i64 r.errno
  hslot : inR .i64 r.hslot
  hgen : inR .i64 r.hgen
  count : inR .i64 r.count
  dkind : inR .i64 r.dkind
  dat : inR .i64 r.dat
  oerrno : inR .i64 r.oerrno
  oad : inR .u32 r.oad
  on : inR .i64 r.on
def TnAt (L : Chunk) (c : List Value) (t : Turn) : Prop := ∃ vb vd, c = tcells t vb vd ∧ BS L vb t.obytes ∧ BS L vd t.draws ∧ TR t
def RpAt (L : Chunk) (c : List Value) (r : Rp) : Prop := ∃ vo, c = rcells r vo ∧ BS L vo r.obytes ∧ RR r
theorem TnAt.to {L L' : Chunk} [hm : MemC L L'] (c : List Value) (t : Turn) (h : TnAt L c t) : TnAt L' c t := let ⟨a, b, e, h1, h2, h3⟩ := h; ⟨a, b, e, h1.to, h2.to, h3⟩
theorem RpAt.to {L L' : Chunk} [hm : MemC L L'] (c : List Value) (r : Rp) (h : RpAt L c r) : RpAt L' c r := let ⟨a, e, h1, h2⟩ := h; ⟨a, e, h1.to, h2⟩
@[reducible] def hdV (h : Hd) : Value := .agg #[.int .i64 h.1, .int .i64 h.2]
/-- A map that says who is bound. -/
def HB (es : List MapEntry) (b : Bnd) : Prop := ∀ k, findI es k = (b k).map hdV
def Bm (L : Chunk) (bp : Nat) (b : Bnd) : Prop := ∃ es c, InC L bp (.map (List.toArray es) c) ∧ KV .i64 es c ∧ HB es b
theorem Bm.to {L L' : Chunk} {bp : Nat} {b : Bnd} (h : Bm L bp b) [hm : MemC L L'] : Bm L' bp b := let ⟨es, c, h1, h2, h3⟩ := h; ⟨es, c, ⟨hm.out _ h1.out⟩, h2, h3⟩
theorem findI_del {q : IntKind} {es : List MapEntry} {c : Nat} (h : KV q es c) (j k : Int) : findI (delE j es) k = if k = j then none else findI es k := by
  have hd : KV q (delE j es) c := h.del
  cases hf : findI (delE j es) k with
  | none =>
    by_cases hk : k = j
    · rw [if_pos hk]
    · rw [if_neg hk]
      cases hg : findI es k with
      | none => rfl
      | some v =>
        obtain ⟨A, e, B, e1, e2, e3⟩ := h.some_of hg
        have hek : kI e.key = k := by rw [e2]; rfl
        have hm : e ∈ delE j es := List.mem_filter.2 ⟨by rw [e1]; simp, by simpa [hek] using hk⟩
        exact absurd hek (hd.none_of hf e hm)
  | some v =>
    obtain ⟨A, e, B, e1, e2, e3⟩ := hd.some_of hf
    have hek : kI e.key = k := by rw [e2]; rfl
    have hm : e ∈ delE j es := by rw [e1]; simp
    obtain ⟨hm1, hm2⟩ := List.mem_filter.1 hm
    have hkj : ¬ k = j := by simpa [hek] using hm2
    have := h.find_of hm1
    rw [hek] at this
    rw [if_neg hkj, this, e3]
theorem put_none {q : IntKind} {es : List MapEntry} {c : Nat} {j : Int} {u : Value} (hf : findI es j = none) : putE q j u es c = (es ++ [⟨.int q j, u, c⟩], c + 1) := by unfold putE; rw [hf]; rfl
theorem put_some {q : IntKind} {es : List MapEntry} {c : Nat} {j : Int} {u v : Value} (hf : findI es j = some v) : putE q j u es c = (setE q j u es, c) := by unfold putE; rw [hf]; rfl
theorem findI_put {q : IntKind} {es : List MapEntry} {c : Nat} (h : KV q es c) (j k : Int) (u : Value) : findI (putE q j u es c).1 k = if k = j then some u else findI es k := by
  have hp : KV q (putE q j u es c).1 (putE q j u es c).2 := h.put
  have mem : ∀ e, e ∈ (putE q j u es c).1 ↔ (e ∈ es ∧ kI e.key ≠ j) ∨ (kI e.key = j ∧ e.key = .int q j ∧ e.val = u ∧ e ∈ (putE q j u es c).1) := fun e => by
    cases hf : findI es j with
    | none =>
      have hno := h.none_of hf
      rw [put_none hf]
      simp only [List.mem_append, List.mem_singleton]
      constructor
      · rintro (he | rfl)
        · exact .inl ⟨he, hno e he⟩
        · exact .inr ⟨rfl, rfl, rfl, .inr rfl⟩
      · rintro (⟨he, _⟩ | ⟨_, _, _, he⟩)
        · exact .inl he
        · exact he
    | some v =>
      rw [put_some hf]
      simp only [setE, List.mem_map]
      constructor
      · rintro ⟨x, hx, rfl⟩
        by_cases hk : kI x.key = j
        · rw [if_pos hk]
          exact .inr ⟨rfl, rfl, rfl, x, hx, by rw [if_pos hk]⟩
        · rw [if_neg hk]
          exact .inl ⟨hx, hk⟩
      · rintro (⟨he, hk⟩ | ⟨_, _, _, he⟩)
        · exact ⟨e, he, by rw [if_neg hk]⟩
        · exact he
  by_cases hk : k = j
  · subst hk
    rw [if_pos rfl]
    have : ∃ e ∈ (putE q k u es c).1, kI e.key = k ∧ e.val = u := by
      cases hf : findI es k with
      | none => rw [put_none hf]; exact ⟨⟨.int q k, u, c⟩, by simp, rfl, rfl⟩
      | some v =>
        rw [put_some hf]
        obtain ⟨A, e, B, e1, e2, e3⟩ := h.some_of hf
        refine ⟨⟨.int q k, u, e.born⟩, List.mem_map.2 ⟨e, by rw [e1]; simp, ?_⟩, rfl, rfl⟩
        rw [if_pos (by rw [e2]; rfl)]
    obtain ⟨e, he, h1, h2⟩ := this
    have := hp.find_of he
    rw [h1, h2] at this
    exact this
  · rw [if_neg hk]
    cases hf : findI (putE q j u es c).1 k with
    | none =>
      cases hg : findI es k with
      | none => rfl
      | some v =>
        obtain ⟨A, e, B, e1, e2, e3⟩ := h.some_of hg
        have hek : kI e.key = k := by rw [e2]; rfl
        exact absurd hek (hp.none_of hf e ((mem e).2 (.inl ⟨by rw [e1]; simp, by rw [hek]; exact hk⟩)))
    | some v =>
      obtain ⟨A, e, B, e1, e2, e3⟩ := hp.some_of hf
      have hek : kI e.key = k := by rw [e2]; rfl
      rcases (mem e).1 (by rw [e1]; simp) with ⟨hm, _⟩ | ⟨hj, _⟩
      · have := h.find_of hm
        rw [hek] at this
        rw [this, e3]
      · exact absurd (hek.symm.trans hj) hk
theorem HB.put {es : List MapEntry} {c : Nat} {b : Bnd} (h : HB es b) (hk : KV .i64 es c) (j : Int) (x : Hd) : HB (putE .i64 j (hdV x) es c).1 (fun n => if n = j then some x else b n) := fun k => by
  rw [findI_put hk]
  by_cases hj : k = j
  · simp [hj]
  · simp only [if_neg hj]; exact h k
theorem HB.del {es : List MapEntry} {c : Nat} {b : Bnd} (h : HB es b) (hk : KV .i64 es c) (j : Int) : HB (delE j es) (fun n => if n = j then none else b n) := fun k => by
  rw [findI_del hk]
  by_cases hj : k = j
  · simp [hj]
  · simp only [if_neg hj]; exact h k
theorem HB.nil : HB [] (fun _ => none) := fun k => rfl
@[reducible] def wcells (t : Turn) (r : Rp) (vb vd vo : Value) (at_ : Int) (bp : Nat) : List Value :=
  [.int .i64 t.kind, .int .i64 t.slot, .int .i64 t.quota, .int .i64 t.thread, .int .i64 t.hslot, .int .i64 t.hgen, .int .i64 t.okind, .int .u32 t.oat, .int .u64 t.osize, .int .u64 t.omult, .int .u64 t.omany, vb, vd,
   .int .i64 r.errno, .int .i64 r.hslot, .int .i64 r.hgen, .int .i64 r.count, .int .i64 r.dkind, .int .i64 r.dat, .bool r.done, .int .i64 r.oerrno, .int .u32 r.oad, .int .i64 r.on, vo, .int .i64 at_, .map (some bp)]
/-- A row of a history. -/
def RwAt (L : Chunk) (c : List Value) (w : Row) : Prop := ∃ vb vd vo bp, c = wcells w.t w.r vb vd vo w.at_ bp ∧ BS L vb w.t.obytes ∧ BS L vd w.t.draws ∧ BS L vo w.r.obytes ∧ TR w.t ∧ RR w.r ∧ Bm L bp w.b
theorem RwAt.to {L L' : Chunk} [hm : MemC L L'] (c : List Value) (w : Row) (h : RwAt L c w) : RwAt L' c w := let ⟨a, b, d, bp, e, h1, h2, h3, h4, h5, h6⟩ := h; ⟨a, b, d, bp, e, h1.to, h2.to, h3.to, h4, h5, h6.to⟩
end Go.Pw.Jd

namespace Go.Pw
section
variable {P : Program} {w0 : World} {n : Nat} {ρ : Env} {L : Chunk}
theorem Spec.enterM5 {f : FuncId} {fn : Func} {c : Code} {Φ : Value → Chunk → Prop} {Ψ : List PanicEntry → Chunk → Prop} {v0 v1 v2 v3 v4 : Value} (hf : P.funcs[f]? = some fn) (hb : fn.body = some c) (hn : fn.ntmps = n) (hle : 5 ≤ n) (h : CW P w0 none n c (bodyM P w0 fn Φ Ψ) (upd (upd (upd (upd (upd und 0 v0) 1 v1) 2 v2) 3 v3) 4 v4) [] L) : Spec P w0 f [v0, v1, v2, v3, v4] L Φ Ψ :=
 Spec.enterM hf hb hn hle (fun t => by rcases t with _ | _ | _ | _ | _ | t <;> simp [upd, und]) h
def markB (Ds : List Nat) : Chunk := Ds.map fun D => (D, .deferred (some []))
theorem upd_mid {A B : Chunk} {b : Nat} {o o' : Obj} : UpdC (A ++ (b, o) :: B) b o' (A ++ (b, o') :: B) := ii
theorem Lv.marks {fn : Func} {Φ : Value → Chunk → Prop} {Ψ : List PanicEntry → Chunk → Prop} {v : Value} {L' B : Chunk} (hr : ∀ L, Res P fn ρ L v) (hp : Φ v L') : ∀ (Ds : List Nat) (A : Chunk), L'.Sublist (A ++ B) → Lv P w0 fn Φ Ψ (Ds.map mk) .returning ρ (A ++ (markB Ds ++ B))
 | [], A, hs => ⟨v, L', by simpa [markB] using hs, hr _, hp⟩
 | D :: Ds, A, hs => by
  refine ⟨by simp, .inl ⟨D, A ++ (D, .deferred none) :: (markB Ds ++ B), rfl, ⟨by simp [markB]⟩, upd_mid, ?_⟩⟩
  have := Lv.marks (fn := fn) (Φ := Φ) (Ψ := Ψ) hr hp Ds (A ++ [(D, .deferred none)]) (hs.trans (by rw [List.append_assoc]; exact List.Sublist.append_left (List.sublist_append_right ..) A))
  rwa [List.append_assoc] at this
theorem bodyM.retMs {fn : Func} {Φ : Value → Chunk → Prop} {Ψ : List PanicEntry → Chunk → Prop} {v : Value} {A B : Chunk} {Ds : List Nat} (L' : Chunk) (hr : ∀ L, Res P fn ρ L v) (hs : L'.Sublist (A ++ B)) (h : Φ v L') : bodyM P w0 fn Φ Ψ .ret ρ (Ds.map mk) (A ++ (markB Ds ++ B)) := Lv.marks hr h Ds A hs
end
end Go.Pw

namespace Go.Pw.Jd
open Go.Pw.Sc Go.Pw.Md Go.Pw.Or
def stepDone (n : Int) (w : Row) : Prop := w.t.thread = n ∧ fine 6 w ∧ w.r.done = true
instance (n : Int) (w : Row) : Decidable (stepDone n w) := by unfold stepDone; infer_instance
def scanT (n : Int) (x : Hd) : List Row → Option (Nat × OutM)
 | [] => none
 | w :: l => if ¬ whose w n x then none else if stepDone n w then some (w.at_, outOf w.r) else scanT n x l
def runs (n : Int) (x : Hd) (l : List Row) : Bool := l.all fun w => decide (whose w n x) && !decide (stepDone n w)
theorem scanT_snoc (n : Int) (x : Hd) (w : Row) : ∀ l : List Row, scanT n x (l ++ [w]) = (scanT n x l).or (if runs n x l = true ∧ whose w n x ∧ stepDone n w then some (w.at_, outOf w.r) else none)
 | [] => by
  simp only [List.nil_append, scanT, runs, List.all_nil, true_and, Option.none_or]
  by_cases h1 : whose w n x <;> by_cases h2 : stepDone n w <;> simp [h1, h2]
 | v :: l => by
  simp only [List.cons_append, scanT, runs, List.all_cons, Bool.and_eq_true]
  by_cases h1 : whose v n x
  ·by_cases h2 : stepDone n v
   ·simp [h1, h2]
   ·have := scanT_snoc n x w l
    simp only [runs] at this
    simp [h1, h2, this]
  ·simp [h1]
theorem runs_snoc (n : Int) (x : Hd) (w : Row) (l : List Row) : runs n x (l ++ [w]) = (runs n x l && (decide (whose w n x) && !decide (stepDone n w))) := by simp [runs]
theorem runs_none (n : Int) (x : Hd) : ∀ l : List Row, runs n x l = true → scanT n x l = none
 | [], _ => rfl
 | v :: l, h => by
  simp only [runs, List.all_cons, Bool.and_eq_true, decide_eq_true_eq, Bool.not_eq_true', decide_eq_false_iff_not] at h
  rw [scanT, if_neg (by simpa using h.1.1), if_neg h.1.2]
  exact runs_none n x l h.2
def outZ : OutM := ⟨0, 0, 0, []⟩
def tdOf (w : Row) (r : Option (Nat × OutM)) : Td := ⟨w.t.thread, opOf w.t, match r with | some (_, o) => o | none => outZ, w.at_, match r with | some (k, _) => (k : Int) | none => -1⟩
def allOf (x : Hd) : List Row → List Td
 | [] => []
 | w :: l => if begins x w then tdOf w (scanT w.t.thread x l) :: allOf x l else allOf x l
def ofR (x : Hd) : List Row → List Td
 | [] => []
 | w :: l => if begins x w then (match scanT w.t.thread x l with | some r => [tdOf w (some r)] | none => []) ++ ofR x l else ofR x l
theorem ofR_all (x : Hd) : ∀ l : List Row, ofR x l = (allOf x l).filter fun y => decide (0 ≤ y.to_)
 | [] => rfl
 | w :: l => by
  rw [ofR, allOf]
  by_cases hb : begins x w
  ·rw [if_pos hb, if_pos hb, List.filter_cons, ofR_all x l]
   cases scanT w.t.thread x l with
   | none => simp [tdOf]
   | some r => simp [tdOf]
  ·rw [if_neg hb, if_neg hb]; exact ofR_all x l
def openOf (x : Hd) (n : Int) : List Row → Nat → List Nat
 | [], _ => []
 | w :: l, i => if begins x w then (if w.t.thread = n ∧ runs n x l = true then i :: openOf x n l (i + 1) else openOf x n l (i + 1)) else openOf x n l i
def answer (k : Int) (o : OutM) (y : Td) : Td := ⟨y.thread, y.op, o, y.from_, k⟩
def setAt (k : Int) (o : OutM) (l : List Td) (is : List Nat) : List Td := is.foldl (fun l i => l.modify i (answer k o)) l
theorem setAt_len (k : Int) (o : OutM) : ∀ (is : List Nat) (l : List Td), (setAt k o l is).length = l.length
 | [], _ => rfl
 | j :: is, l => by rw [show setAt k o l (j :: is) = setAt k o (l.modify j (answer k o)) is from rfl, setAt_len k o is]; simp
end Go.Pw.Jd

namespace Go.Pw.Jd
open Go.Pw.Sc Go.Pw.Md Go.Pw.Or
theorem openOf_shift (x : Hd) (n : Int) : ∀ (l : List Row) (i : Nat), openOf x n l (i + 1) = (openOf x n l i).map (· + 1)
 | [], _ => rfl
 | w :: l, i => by
  rw [openOf, openOf]
  by_cases h1 : begins x w
  ·rw [if_pos h1, if_pos h1]
   by_cases h2 : w.t.thread = n ∧ runs n x l = true
   ·rw [if_pos h2, if_pos h2, openOf_shift x n l (i + 1), List.map_cons]
   ·rw [if_neg h2, if_neg h2, openOf_shift x n l (i + 1)]
  ·rw [if_neg h1, if_neg h1, openOf_shift x n l i]
theorem setAt_shift (k : Int) (o : OutM) : ∀ (is : List Nat) (a : Td) (l : List Td), setAt k o (a :: l) (is.map (· + 1)) = a :: setAt k o l is
 | [], _, _ => rfl
 | j :: is, a, l => by
  rw [List.map_cons, show setAt k o (a :: l) ((j + 1) :: is.map (· + 1)) = setAt k o ((a :: l).modify (j + 1) (answer k o)) (is.map (· + 1)) from rfl, show setAt k o l (j :: is) = setAt k o (l.modify j (answer k o)) is from rfl]
  rw [show (a :: l).modify (j + 1) (answer k o) = a :: l.modify j (answer k o) from rfl, setAt_shift k o is]
def ends (x : Hd) (w : Row) : Prop := fine 6 w ∧ w.r.done = true ∧ whose w w.t.thread x
instance (x : Hd) (w : Row) : Decidable (ends x w) := by unfold ends; infer_instance
theorem allOf_snoc (x : Hd) (w : Row) : ∀ P : List Row, allOf x (P ++ [w]) = (if ends x w then setAt w.at_ (outOf w.r) (allOf x P) (openOf x w.t.thread P 0) else allOf x P) ++ (if begins x w then [tdOf w none] else [])
 | [] => by
  simp only [List.nil_append, allOf, openOf, scanT]
  by_cases h : begins x w <;> by_cases h2 : ends x w <;> simp [h, h2, setAt]
 | v :: P => by
  have ih := allOf_snoc x w P
  rw [List.cons_append, allOf, allOf, openOf]
  by_cases hv : begins x v
  ·simp only [if_pos hv]
   rw [ih, scanT_snoc]
   by_cases he : ends x w
   ·simp only [if_pos he]
    by_cases hn : v.t.thread = w.t.thread ∧ runs w.t.thread x P = true
    ·have hsd : stepDone v.t.thread w := ⟨hn.1.symm, he.1, he.2.1⟩
     have hwh : whose w v.t.thread x := by rw [hn.1]; exact he.2.2
     have hr : runs v.t.thread x P = true := by rw [hn.1]; exact hn.2
     have hc : runs v.t.thread x P = true ∧ whose w v.t.thread x ∧ stepDone v.t.thread w := ⟨hr, hwh, hsd⟩
     simp only [if_pos hc, if_pos hn]
     rw [runs_none _ _ _ hr, Option.none_or, openOf_shift]
     rw [show setAt (w.at_ : Int) (outOf w.r) (tdOf v none :: allOf x P) (0 :: (openOf x w.t.thread P 0).map (· + 1)) = setAt (w.at_ : Int) (outOf w.r) (answer w.at_ (outOf w.r) (tdOf v none) :: allOf x P) ((openOf x w.t.thread P 0).map (· + 1)) from rfl, setAt_shift]
     rfl
    ·have hc : ¬ (runs v.t.thread x P = true ∧ whose w v.t.thread x ∧ stepDone v.t.thread w) := fun h => hn ⟨h.2.2.1.symm, by rw [h.2.2.1]; exact h.1⟩
     simp only [if_neg hc, if_neg hn]
     rw [Option.or_none, openOf_shift, setAt_shift]
     rfl
   ·have hc : ¬ (runs v.t.thread x P = true ∧ whose w v.t.thread x ∧ stepDone v.t.thread w) := fun h => he ⟨h.2.2.2.1, h.2.2.2.2, by rw [h.2.2.1]; exact h.2.1⟩
    simp only [if_neg he, if_neg hc]
    rw [Option.or_none]
    rfl
  ·simp only [if_neg hv]
   exact ih
theorem openOf_snoc (x : Hd) (w : Row) (m : Int) : ∀ (P : List Row) (i : Nat), openOf x m (P ++ [w]) i = (if whose w m x ∧ ¬ stepDone m w then openOf x m P i else []) ++ (if begins x w ∧ w.t.thread = m then [i + (allOf x P).length] else [])
 | [], i => by
  simp only [List.nil_append, openOf, allOf]
  by_cases h : begins x w <;> by_cases h2 : w.t.thread = m <;> simp [h, h2, runs]
 | v :: P, i => by
  rw [List.cons_append, openOf, openOf, allOf]
  by_cases hv : begins x v
  ·simp only [if_pos hv]
   rw [openOf_snoc x w m P (i + 1), runs_snoc, List.length_cons, show i + 1 + (allOf x P).length = i + ((allOf x P).length + 1) by omega]
   generalize (if begins x w = true ∧ w.t.thread = m then [i + ((allOf x P).length + 1)] else []) = T
   by_cases h1 : whose w m x ∧ ¬ stepDone m w
   ·have hb : (decide (whose w m x) && !decide (stepDone m w)) = true := by simp [h1.1, h1.2]
    simp only [if_pos h1, hb, Bool.and_true]
    by_cases h3 : v.t.thread = m ∧ runs m x P = true
    ·simp only [if_pos h3]; rfl
    ·simp only [if_neg h3]
   ·have hb : (decide (whose w m x) && !decide (stepDone m w)) = false := by
     by_cases h2 : whose w m x
     ·have : stepDone m w := Classical.byContradiction fun h => h1 ⟨h2, h⟩
      simp [this]
     ·simp [h2]
    have h4 : ¬ (v.t.thread = m ∧ (runs m x P && false) = true) := fun h => by have := h.2; simp at this
    simp only [if_neg h1, hb]
    rw [if_neg h4]
  ·simp only [if_neg hv]
   exact openOf_snoc x w m P i
def opAt (x : Hd) (b : Bnd) (P : List Row) (m : Int) : List Nat := if (b m).getD (0, 0) = x then openOf x m P 0 else []
theorem opAt_snoc (x : Hd) (w : Row) (P : List Row) (b' : Bnd) (m : Int) : opAt x b' (P ++ [w]) m = if (b' m).getD (0, 0) = x then
  (if begins x w ∧ w.t.thread = m then opAt x w.b P m ++ [(allOf x P).length] else if ends x w ∧ w.t.thread = m then [] else opAt x w.b P m) else [] := by
 unfold opAt
 by_cases h0 : (b' m).getD (0, 0) = x
 ·simp only [if_pos h0]
  rw [openOf_snoc, Nat.zero_add]
  by_cases h1 : begins x w ∧ w.t.thread = m
  ·have hb := of_decide_eq_true h1.1
   have hw : whose w m x := by rw [← h1.2]; exact hb.2.2
   have hs : ¬ stepDone m w := fun h => by
    have h5 := hb.1.1
    have h6 := h.2.1.1
    omega
   have hw' : (w.b m).getD (0, 0) = x := hw
   simp only [if_pos h1, if_pos (show whose w m x ∧ ¬ stepDone m w from ⟨hw, hs⟩), if_pos hw']
  ·simp only [if_neg h1]
   rw [List.append_nil]
   by_cases h2 : ends x w ∧ w.t.thread = m
   ·simp only [if_pos h2, if_neg (show ¬ (whose w m x ∧ ¬ stepDone m w) from fun h => h.2 ⟨h2.2, h2.1.1, h2.1.2.1⟩)]
   ·simp only [if_neg h2]
    by_cases hw : whose w m x
    ·have hw' : (w.b m).getD (0, 0) = x := hw
     have hsd : ¬ stepDone m w := fun h => h2 ⟨⟨h.2.1, h.2.2, by rw [h.1]; exact hw⟩, h.1⟩
     simp only [if_pos hw', if_pos (show whose w m x ∧ ¬ stepDone m w from ⟨hw, hsd⟩)]
    ·have hw' : ¬ (w.b m).getD (0, 0) = x := hw
     simp only [if_neg hw', if_neg (show ¬ (whose w m x ∧ ¬ stepDone m w) from fun h => hw h.1)]
 ·simp only [if_neg h0]
theorem allOf_len (x : Hd) : ∀ P : List Row, (allOf x P).length ≤ P.length
 | [] => Nat.le_refl _
 | w :: P => by
  rw [allOf]
  have := allOf_len x P
  split <;> simp <;> omega
theorem openOf_lt (x : Hd) (n : Int) : ∀ (P : List Row) (i k : Nat), k ∈ openOf x n P i → k < i + (allOf x P).length
 | [], _, _, h => by cases h
 | w :: P, i, k, h => by
  rw [openOf] at h
  rw [allOf]
  by_cases hb : begins x w
  ·rw [if_pos hb] at h ⊢
   rw [List.length_cons]
   split at h
   ·rcases List.mem_cons.1 h with rfl | h
    ·omega
    ·have := openOf_lt x n P (i + 1) k h; omega
   ·have := openOf_lt x n P (i + 1) k h; omega
  ·rw [if_neg hb] at h ⊢
   exact openOf_lt x n P i k h
theorem openOf_le (x : Hd) (n : Int) : ∀ (P : List Row) (i : Nat), (openOf x n P i).length ≤ (allOf x P).length
 | [], _ => Nat.le_refl _
 | w :: P, i => by
  rw [openOf, allOf]
  have := openOf_le x n P (i + 1)
  have := openOf_le x n P i
  split
  ·split <;> simp <;> omega
  ·omega
abbrev PBnd := Int → Option Hd
def pbind (b : PBnd) (t : Turn) : PBnd :=
 if t.kind = 2 then fun n => if b n = some (t.hslot, t.hgen) then none else b n
 else if t.kind = 3 then fun n => if n = t.thread then some (t.hslot, t.hgen) else b n
 else if t.kind = 4 then fun n => if n = t.thread then none else b n
 else b
def BRel (x : Hd) (p : PBnd) (b : Bnd) : Prop := ∀ n, isThread n → (p n = some x ↔ b n = some x)
theorem BRel.step {x : Hd} {p : PBnd} {b : Bnd} (hx : x ≠ (0, 0)) (h : BRel x p b) {t : Turn} {r : Rp} (hr : r.errno = 0) : BRel x (pbind p t) (bindStep b t r) := fun n hn => by
 have hn' := h n hn
 have hnt' : ∀ m, n = m → (0 ≤ m ∧ m < 4) := fun m e => e ▸ hn
 have e2 : ∀ q : Option Hd, (if q = some (t.hslot, t.hgen) then none else q) = some x ↔ (q = some x ∧ ¬ (t.hslot, t.hgen) = x) := fun q => by
  by_cases hq : q = some (t.hslot, t.hgen)
  ·rw [if_pos hq]
   exact ⟨fun h => (by cases h), fun ⟨h1, h2⟩ => absurd (Option.some.inj (hq.symm.trans h1)) h2⟩
  ·rw [if_neg hq]
   exact ⟨fun h => ⟨h, fun e => hq (h.trans (congrArg some e.symm))⟩, fun h => h.1⟩
 have hp : pbind p t n = if t.kind = 2 then (if p n = some (t.hslot, t.hgen) then none else p n) else if t.kind = 3 then (if n = t.thread then some (t.hslot, t.hgen) else p n) else if t.kind = 4 then (if n = t.thread then none else p n) else p n := by
  unfold pbind
  by_cases h2 : t.kind = 2
  ·simp only [if_pos h2]
  ·by_cases h3 : t.kind = 3
   ·simp only [if_neg h2, if_pos h3]
   ·by_cases h4 : t.kind = 4
    ·simp only [if_neg h2, if_neg h3, if_pos h4]
    ·simp only [if_neg h2, if_neg h3, if_neg h4]
 have hb : bindStep b t r n = if t.kind = 2 then (if b n = some (t.hslot, t.hgen) then none else b n) else if t.kind = 3 then (if n = t.thread then (if (t.hslot, t.hgen) = (0, 0) then none else some (t.hslot, t.hgen)) else b n) else if t.kind = 4 then (if n = t.thread then none else b n) else b n := by
  unfold bindStep
  by_cases h2 : t.kind = 2
  ·simp only [if_pos h2, if_pos (show r.errno = 0 ∧ t.kind = 2 from ⟨hr, h2⟩)]
  ·simp only [if_neg h2, if_neg (show ¬ (r.errno = 0 ∧ t.kind = 2) from fun h => h2 h.2)]
   by_cases ht : 0 ≤ t.thread ∧ t.thread < 4
   ·by_cases h3 : t.kind = 3
    ·simp only [if_pos h3, if_pos (show r.errno = 0 ∧ (0 ≤ t.thread ∧ t.thread < 4) ∧ t.kind = 3 from ⟨hr, ht, h3⟩)]
    ·simp only [if_neg h3, if_neg (show ¬ (r.errno = 0 ∧ (0 ≤ t.thread ∧ t.thread < 4) ∧ t.kind = 3) from fun h => h3 h.2.2)]
     by_cases h4 : t.kind = 4
     ·simp only [if_pos h4, if_pos (show r.errno = 0 ∧ (0 ≤ t.thread ∧ t.thread < 4) ∧ t.kind = 4 from ⟨hr, ht, h4⟩)]
     ·simp only [if_neg h4, if_neg (show ¬ (r.errno = 0 ∧ (0 ≤ t.thread ∧ t.thread < 4) ∧ t.kind = 4) from fun h => h4 h.2.2)]
   ·have hnt : ¬ n = t.thread := fun e => ht (hnt' _ e)
    simp only [if_neg (show ¬ (r.errno = 0 ∧ (0 ≤ t.thread ∧ t.thread < 4) ∧ t.kind = 3) from fun h => ht h.2.1), if_neg (show ¬ (r.errno = 0 ∧ (0 ≤ t.thread ∧ t.thread < 4) ∧ t.kind = 4) from fun h => ht h.2.1), if_neg hnt, ite_self]
 rw [hp, hb]
 by_cases h2 : t.kind = 2
 ·simp only [if_pos h2]
  rw [e2, e2, hn']
 ·simp only [if_neg h2]
  by_cases h3 : t.kind = 3
  ·simp only [if_pos h3]
   by_cases hnt : n = t.thread
   ·simp only [if_pos hnt]
    by_cases hz : (t.hslot, t.hgen) = (0, 0)
    ·simp only [if_pos hz]
     rw [hz]
     exact ⟨fun h => absurd (Option.some.inj h).symm hx, fun h => (by cases h)⟩
    ·simp only [if_neg hz]
   ·simp only [if_neg hnt]; exact hn'
  ·simp only [if_neg h3]
   by_cases h4 : t.kind = 4
   ·simp only [if_pos h4]
    by_cases hnt : n = t.thread
    ·simp only [if_pos hnt]
    ·simp only [if_neg hnt]; exact hn'
   ·simp only [if_neg h4]; exact hn'
theorem getD_some {x : Hd} (hx : x ≠ (0, 0)) (q : Option Hd) : q.getD (0, 0) = x ↔ q = some x := by
 cases q with
 | none => exact ⟨fun h => absurd h.symm hx, fun h => by cases h⟩
 | some y => exact ⟨fun h => congrArg some h, fun h => Option.some.inj h⟩
end Go.Pw.Jd

namespace Go.Pw
open Go.Pw.Md
def cur (es0 : List MapEntry) (q : MapEntry → Bool) (seen : Array Nat) : List MapEntry := es0.filter fun e => !(seen.contains e.born && q e)
theorem cur_nil (es0 : List MapEntry) (q : MapEntry → Bool) : cur es0 q #[] = es0 := by
 unfold cur; rw [List.filter_eq_self.2]; intro e _; simp
theorem KV.filter {k : IntKind} {es : List MapEntry} {c : Nat} (h : KV k es c) (p : MapEntry → Bool) : KV k (es.filter p) c :=
 ⟨fun e he => h.keys e (List.mem_filter.1 he).1, h.apart.sublist (List.filter_sublist.map _), h.births.sublist (List.filter_sublist.map _), fun e he => h.old e (List.mem_filter.1 he).1⟩
theorem nodup_inj {α β : Type} {f : α → β} : ∀ {l : List α}, (l.map f).Nodup → ∀ x ∈ l, ∀ y ∈ l, f x = f y → x = y
 | [], _, _, hx, _, _, _ => by cases hx
 | a :: l, h, x, hx, y, hy, e => by
  rw [List.map_cons, List.nodup_cons] at h
  rcases List.mem_cons.1 hx with rfl | hx1 <;> rcases List.mem_cons.1 hy with rfl | hy1
  ·rfl
  ·exact absurd (List.mem_map.2 ⟨y, hy1, e.symm⟩) h.1
  ·exact absurd (List.mem_map.2 ⟨x, hx1, e⟩) h.1
  ·exact nodup_inj h.2 x hx1 y hy1 e
theorem cur_step {k : IntKind} {es0 : List MapEntry} {c : Nat} (h : KV k es0 c) (q : MapEntry → Bool) {seen : Array Nat} {z : MapEntry} (hz : z ∈ es0) (hs : seen.contains z.born = false) :
  cur es0 q (seen.push z.born) = if q z then delE (kI z.key) (cur es0 q seen) else cur es0 q seen := by
 have hk : ∀ e ∈ es0, e.born = z.born → e = z := fun e he hb => nodup_inj h.births e he z hz hb
 have hb : ∀ e : MapEntry, (seen.push z.born).contains e.born = (seen.contains e.born || decide (e.born = z.born)) := fun e => by
  rw [Array.contains_push]
  by_cases h2 : e.born = z.born
  ·simp [h2]
  ·have h3 : ¬ z.born = e.born := fun h => h2 h.symm
   simp [h2, h3]
 by_cases hq : q z = true
 ·rw [if_pos hq]
  unfold cur delE
  rw [List.filter_filter]
  refine List.filter_congr fun e he => ?_
  rw [hb e]
  by_cases hez : e.born = z.born
  ·have := hk e he hez
   subst this
   simp [hq]
  ·have : ¬ kI e.key = kI z.key := fun hb => hez (congrArg MapEntry.born (nodup_inj h.apart e he z hz hb))
   simp [hez, this]
 ·rw [if_neg hq]
  unfold cur
  refine List.filter_congr fun e he => ?_
  rw [hb e]
  by_cases hez : e.born = z.born
  ·have := hk e he hez
   subst this
   simp [hq]
  ·simp [hez]
def todoZ (es : List MapEntry) (seen : Array Nat) : List (MapEntry × Unit) := (es.filter fun x => !seen.contains x.born).map fun e => (e, ())
theorem todo_left (es : List MapEntry) (seen : Array Nat) : LeftZ (es.map fun e => (e, ())) seen (todoZ es seen) := by
 unfold LeftZ todoZ
 rw [List.filter_map]
 rfl
theorem cur_end {es0 : List MapEntry} {q : MapEntry → Bool} {seen : Array Nat} (h : todoZ (cur es0 q seen) seen = []) : cur es0 q seen = es0.filter fun e => !q e := by
 have h1 : (cur es0 q seen).filter (fun x => !seen.contains x.born) = [] := List.map_eq_nil_iff.1 h
 rw [List.filter_eq_nil_iff] at h1
 unfold cur at h1 ⊢
 refine List.filter_congr fun e he => ?_
 cases hs : seen.contains e.born with
 | true => rw [Bool.true_and]
 | false => exact absurd (by rw [hs]; rfl : (!seen.contains e.born) = true) (h1 e (List.mem_filter.2 ⟨he, by rw [hs]; rfl⟩))
theorem todo_mem {es : List MapEntry} {seen : Array Nat} {A B : List (MapEntry × Unit)} {z : MapEntry × Unit} (h : todoZ es seen = A ++ z :: B) : z.1 ∈ es ∧ seen.contains z.1.born = false := by
 have hm : z ∈ todoZ es seen := by rw [h]; simp
 obtain ⟨e, he, rfl⟩ := List.mem_map.1 hm
 obtain ⟨h1, h2⟩ := List.mem_filter.1 he
 exact ⟨h1, by simpa using h2⟩
theorem cur_sub {es0 : List MapEntry} {q : MapEntry → Bool} {seen : Array Nat} {z : MapEntry} (h : z ∈ cur es0 q seen) : z ∈ es0 := (List.mem_filter.1 h).1
def unseen (es0 : List MapEntry) (seen : Array Nat) : Nat := (es0.filter fun e => !seen.contains e.born).length
theorem unseen_lt {es0 : List MapEntry} {seen : Array Nat} {z : MapEntry} (hz : z ∈ es0) (hs : seen.contains z.born = false) : unseen es0 (seen.push z.born) < unseen es0 seen := by
 unfold unseen
 have h1 : (es0.filter fun e => !(seen.push z.born).contains e.born) = (es0.filter fun e => !seen.contains e.born).filter fun e => decide (e.born ≠ z.born) := by
  rw [List.filter_filter]
  refine List.filter_congr fun e _ => ?_
  rw [Array.contains_push]
  by_cases h : e.born = z.born <;> simp [h, Bool.and_comm]
 rw [h1]
 have hm : z ∈ es0.filter fun e => !seen.contains e.born := List.mem_filter.2 ⟨hz, by rw [hs]; rfl⟩
 exact List.length_filter_lt_length_iff_exists.2 ⟨z, hm, by simp⟩
end Go.Pw

namespace Go.Pw
theorem Bi1 {p q : Prop} (h : q) (f : q → p := by intro h; first|exact Y1 h|exact Y3 h|exact Y5 h|exact Y7 h|exact Z1 h|exact Y8 h|exact Y9 h|exact Y10 h|exact Y11 h|exact Y12 h|exact Y13 h|exact Z3 h|exact Z4 h|exact Z5 h|exact Y17 h|exact Y18 h|exact Y19 h|exact Z12 h|exact Z13 h|exact Z14 h|fail) : p := f h
end Go.Pw

namespace Go.Pw
open Go.Pw.Md
theorem LAt.split {α : Type} {s : Nat} {R : List Value → α → Prop} : ∀ {xs : List Value} {ags : List α} {i : Nat} (hi : i < ags.length), LAt s R xs ags → ∃ U c V, xs = U ++ (c ++ V) ∧ U.length = i * s ∧ c.length = s ∧ R c ags[i] ∧ ∀ c' a', c'.length = s → R c' a' → LAt s R (U ++ (c' ++ V)) (ags.set i a')
 | _, a :: ags, 0, _, ⟨c, r, e, h0, h1, h2⟩ => ⟨[], c, r, by simpa using e, by simp, h0, h1, fun c' a' h0' h1' => ⟨c', r, rfl, h0', h1', h2⟩⟩
 | _, a :: ags, i + 1, hi, ⟨c, r, e, h0, h1, h2⟩ => by
  obtain ⟨U, d, V, e1, e2, e3, e4, e5⟩ := LAt.split (i := i) (by simpa using hi) h2
  refine ⟨c ++ U, d, V, by rw [e, e1]; simp, by rw [List.length_append, h0, e2, Nat.add_mul]; omega, e3, e4, fun c' a' h0' h1' => ⟨c, U ++ (c' ++ V), by simp, h0, h1, e5 c' a' h0' h1'⟩⟩
theorem setMid {U c c' V rest : List Value} {k j : Nat} {v : Value} (hU : U.length = k) (h : SetL c j v c') : SetL ((U ++ (c ++ V)) ++ rest) (k + j) v ((U ++ (c' ++ V)) ++ rest) := ⟨by
 have := h.out.1
 simp only [List.length_append]; omega, by
 have h1 := h.out.1
 subst hU
 rw [List.append_assoc, List.set_append_right _ _ (by omega), show U.length + j - U.length = j by omega, List.append_assoc, List.set_append_left _ _ h1, h.out.2]
 simp⟩
theorem putMid {U c c' V rest vs : List Value} {k j : Nat} (hU : U.length = k) (h : PutL c j vs c') : PutL ((U ++ (c ++ V)) ++ rest) (k + j) vs ((U ++ (c' ++ V)) ++ rest) := ⟨by
 have := h.out.1
 simp only [List.length_append]; omega, by
 have h1 := h.out.1
 have h2 := h.out.2
 subst hU
 have e : (U ++ (c ++ V)) ++ rest = U ++ (c ++ (V ++ rest)) := by simp
 rw [e, List.take_length_add_append, show U.length + j + vs.length = U.length + (j + vs.length) by omega, ← List.drop_drop, List.drop_left, List.take_append_of_le_length (by omega), List.drop_append_of_le_length h1, ← h2]
 simp⟩
theorem modify_set {α : Type} (f : α → α) {l : List α} {i : Nat} (h : i < l.length) : l.modify i f = l.set i (f l[i]) := by
 apply List.ext_getElem?
 intro k
 rw [List.getElem?_modify, List.getElem?_set]
 by_cases hk : i = k
 ·subst hk; simp [List.getElem?_eq_getElem h, h]
 ·cases l[k]? <;> simp [hk]
end Go.Pw

namespace Go.Pw
section
variable {P : Program} {F : Fence} {ops : Array Oper} {Q : Exit → Act → World → Prop}
theorem AnyB.first0 {base : Array Bool} {i : Nat} {oi : Oper} {v : Value} (hF : ∀ f, F.fn f) (hi : ops[i]? = some oi) (hsel : ∀ (j : Nat) (o : Oper) cs b, ops[j]? = some o → o.op ≠ .select cs b)
  (hdef : ∀ (j : Nat) (o : Oper) c, ops[j]? = some o → o.op ≠ .defer c) (hQ : ∀ c a d v w, Q (.panic c) (a.put d v) w → Q (.panic c) a w) :
  ∀ (fuel : Nat) (listed : Array Bool) (R : Chunk) (a : Act) (w : World),
   (∀ j oj, ops[j]? = some oj → j ≠ i → listed.getD j true = false → (∀ e ∈ oj.after, Region.binds .any e = true → e.on ≠ i) → oi.apart ops oj = true) →
   i ∈ Region.ready .any ops listed → YI P ops [] oi v a → Pn w R →
   AnyB F P ops Q base fuel (listed.setIfInBounds i true) R (a.put oi.dst v) w → AnyB F P ops Q base (fuel + 1) listed R a w := by
 intro fuel
 induction fuel with
 | zero =>
  intro listed R a w _ hr hy hp H
  refine ⟨fun h => (by rw [h] at hr; cases hr), fun j hj => ?_⟩
  by_cases hji : j = i
  ·subst hji; exact hy.op hF (fun c => hdef _ _ c hi) hi (fun _ _ h => (by cases h)) ⟨R, .inl fun _ h => h, hp, H⟩
  ·have := ready_mono hj hji
   rw [H.1] at this
   cases this
 | succ fuel ih =>
  intro listed R a w hfree hr hy hp H
  refine ⟨fun h => (by rw [h] at hr; cases hr), fun j hj => ?_⟩
  by_cases hji : j = i
  ·subst hji; exact hy.op hF (fun c => hdef _ _ c hi) hi (fun _ _ h => (by cases h)) ⟨R, .inl fun _ h => h, hp, H⟩
  ·have h1 := H.2 j (ready_mono hj hji)
   obtain ⟨hjun, oj, hoj, hall⟩ := mem_ready.1 hj
   have hnot : ∀ e ∈ oj.after, Region.binds .any e = true → e.on ≠ i := fun e he hb heq => by
    have h1 := hall e he hb
    have h0 := (mem_ready.1 hr).1
    rw [heq] at h1
    rcases Nat.lt_or_ge i listed.size with h' | h'
    ·simp [h'] at h0 h1; rw [h0] at h1; cases h1
    ·simp [Array.getElem?_eq_none h'] at h1
   have h2 := wpOpIn_putR hF hoj (hfree j oj hoj hji hjun hnot) (fun cs b => hsel i oi cs b hi) (fun cs b => hsel j oj cs b hoj) (fun c => hdef j oj c hoj) hQ hy h1
   have hfree' : ∀ k ok, ops[k]? = some ok → k ≠ i → (listed.setIfInBounds j true).getD k true = false →
     (∀ e ∈ ok.after, Region.binds .any e = true → e.on ≠ i) → oi.apart ops ok = true := fun k ok hk hki hun hno => by
    refine hfree k ok hk hki ?_ hno
    by_cases hjk : j = k
    ·subst hjk; exact hjun
    ·rw [getD_set_ne true hjk] at hun; exact hun
   refine wpOpIn_mono (fun a' w' h3 => ?_) h2
   obtain ⟨hy', R', hs, hp', H'⟩ := h3
   have hs' : (∀ p ∈ R, p ∈ R') ∨ depB ops base listed j = true := by
    rcases hs with hs | hd
    ·exact .inl hs
    ·refine .inr ?_
     unfold depB at hd ⊢
     rw [hoj] at hd ⊢
     rw [List.all_eq_true] at hd ⊢
     intro m hm
     have hdm := hd m hm
     cases hlm : listed.getD m false with
     | false => simp
     | true =>
      have : (listed.setIfInBounds i true).getD m false = true := by
       by_cases him : i = m
       ·subst him
        rcases Nat.lt_or_ge i listed.size with h' | h'
        ·simp [h']
        ·simp [Array.getElem?_eq_none h'] at hlm
       ·rw [getD_set_ne false him]; exact hlm
      rw [this] at hdm
      simpa using hdm
   refine ⟨R', hs', hp', ih (listed.setIfInBounds j true) R' a' w' hfree' (ready_mono hr (Ne.symm hji)) hy' hp' ?_⟩
   rw [Array.setIfInBounds_comm _ _ hji]
   exact H'
theorem pure_anyB (hF : ∀ f, F.fn f) (hodd : noOdd ops = true) (hQ : ∀ c a d v w, Q (.panic c) (a.put d v) w → Q (.panic c) a w) {Fin : Chunk → Act → World → Prop} {more : Nat} {base last : Array Bool} {R : Chunk} {w : World} (hp : Pn w R)
  (hfin : ∀ a, Fin [] a w → ∀ fuel, more ≤ fuel → AnyB F P ops Q base fuel last R a w) :
  ∀ (l : List Nat) (fuel : Nat) (listed : Array Bool) (a : Act), (∀ i ∈ l, ∀ o, ops[i]? = some o → isEff o = false) → l.length + more ≤ fuel → tick l listed = last → chkP ops l listed = true → RDc F P ops Q Fin l [] a w → AnyB F P ops Q base fuel listed R a w := by
 have hsel : ∀ (j : Nat) (o : Oper) cs b, ops[j]? = some o → o.op ≠ .select cs b := fun j o cs b ho he => by
  have := Array.all_eq_true_iff_forall_mem.1 hodd o (Array.mem_of_getElem? ho)
  simp [he] at this
 have hdef : ∀ (j : Nat) (o : Oper) c, ops[j]? = some o → o.op ≠ .defer c := fun j o c ho he => by
  have := Array.all_eq_true_iff_forall_mem.1 hodd o (Array.mem_of_getElem? ho)
  simp [he] at this
 intro l
 induction l with
 | nil => intro fuel listed a _ hl ht _ h; subst ht; exact hfin a h fuel (by simpa using hl)
 | cons i l ih =>
  intro fuel listed a hb hl ht hc h
  obtain ⟨fuel, rfl⟩ : ∃ k, fuel = k + 1 := ⟨fuel - 1, by simp at hl; omega⟩
  obtain ⟨o, ho, h⟩ := h
  simp only [chkP, ho, Bool.and_eq_true] at hc
  obtain ⟨⟨hready, hkind⟩, hc⟩ := hc
  have hr : i ∈ Region.ready .any ops listed := by simpa using hready
  have hl' : l.length + more ≤ fuel := by simp at hl; omega
  rcases h with ⟨he, v, hy, h⟩ | ⟨he, h⟩
  ·rw [he] at hkind
   exact AnyB.first0 hF ho hsel hdef hQ fuel listed R a w (Region.free_spec ho (by simpa using hkind)) hr hy hp (ih fuel _ _ (fun j hj => hb j (List.mem_cons_of_mem _ hj)) hl' ht hc h)
  ·rw [hb i (List.mem_cons_self ..) o ho] at he
   cases he
end
def regionOkG (n : Nat) (ops : Array Oper) (is0 is1 is2 is3 : List Nat) (k : Nat) (ks : List Nat) : Bool :=
 noOdd ops && ops.all (dstOk n) && decide (is0.length + (is1.length + (is2.length + (is3.length + (ks.length + 1)))) ≤ ops.size) && chkP ops is0 (Array.replicate ops.size false) && chkP ops is1 (tick is0 (Array.replicate ops.size false)) &&
  chkP ops is2 (tick is1 (tick is0 (Array.replicate ops.size false))) && chkP ops is3 (tick is2 (tick is1 (tick is0 (Array.replicate ops.size false)))) &&
  (pickOps ops.toList is0).all (fun o => !isEff o) && is2.all (fun i => ops[i]?.all fun o => !isEff o) &&
  is1.all (fun i => !(tick is2 (tick is0 (Array.replicate ops.size false))).getD i false) && is3.all (fun i => !(tick is2 (tick is0 (Array.replicate ops.size false))).getD i false) &&
  depB ops (tick is2 (tick is0 (Array.replicate ops.size false))) (tick is3 (tick is2 (tick is1 (tick is0 (Array.replicate ops.size false))))) k && chain ops (k :: ks) (tick is3 (tick is2 (tick is1 (tick is0 (Array.replicate ops.size false)))))
section
variable {P : Program} {w0 : World} {rd : Option Nat} {n : Nat} {K : Post} {ρ : Env} {ds : List Deferred} {L : Chunk} {l : List Oper}
theorem CW.drawsG {id : Nat} (is0 is1 is2 is3 : List Nat) (k : Nat) (ks : List Nat) (hm : P.follows .mixedOrders = true) (hok : regionOkG n l.toArray is0 is1 is2 is3 k ks = true) [hK : StdC K]
  {l0 l1 l2 l3 l4 : List Oper} [p0 : Pick l is0 l0] [p1 : Pick l is1 l1] [p2 : Pick l is2 l2] [p3 : Pick l is3 l3] [p4 : Pick l (k :: ks) l4]
  (h : RW P w0 rd n l.toArray (thenK (fun ρ ds L => ∃ R, (∀ p ∈ R, p ∈ L) ∧ RW P w0 rd n l.toArray (thenK (fun ρ ds L1 => RW P w0 rd n l.toArray (thenK (fun ρ ds L => ∀ R1, (∀ p ∈ R1, p ∈ L1) → (∀ p ∈ R1, p ∈ L) ∧ RW P w0 rd n l.toArray (thenK (fun ρ ds L => OW P w0 rd n l.toArray K l4 ρ ds L) K) l3 R1 ρ ds L) K) l2 [] ρ ds L1) K) l1 R ρ ds L) K) l0 [] ρ ds L) : CW P w0 rd n (.region id l.toArray true) K ρ ds L := by
 have := p0.out; subst this
 have := p1.out; subst this
 have := p2.out; subst this
 have := p3.out; subst this
 have := p4.out; subst this
 intro a w hr hs
 simp only [regionOkG, Bool.and_eq_true, decide_eq_true_eq] at hok
 obtain ⟨⟨⟨⟨⟨⟨⟨⟨⟨⟨⟨⟨h1, h2⟩, h3⟩, c0⟩, c1⟩, c2⟩, c3⟩, e0⟩, e2⟩, b1⟩, b3⟩, hd⟩, hc⟩ := hok
 have hmem : ∀ {is : List Nat} (o : Oper), o ∈ pickOps l is → dstOk n o = true := fun o ho => Array.all_eq_true_iff_forall_mem.1 h2 o (by simpa using pickOps_mem ho)
 have hin : ∀ {is : List Nat}, ∀ o ∈ pickOps l is, ∃ i : Nat, l.toArray[i]? = some o := fun o ho => by
  obtain ⟨k, hk⟩ := List.mem_iff_getElem?.1 (pickOps_mem ho)
  exact ⟨k, by simpa using hk⟩
 have hpure : ∀ o ∈ pickOps l is0, isEff o = false := fun o ho => by simpa using List.all_eq_true.1 e0 o ho
 have quit : ∀ (N : Env → List Deferred → Chunk → Prop) (Fin : Chunk → Act → World → Prop) (is : List Nat) (R : Chunk) (a : Act) (w : World), RDl (fence rd) P l.toArray (Kx w0 n (thenK N K)) Fin (pickOps l is) R a w → RDl (fence rd) P l.toArray (Kx w0 n K) Fin (pickOps l is) R a w :=
  fun N Fin is R a w h => RDl.quit (Q := Kx w0 n (thenK N K)) (Q' := Kx w0 n K) (fun e a w h => h) (fun ⟨a, w, h⟩ => ⟨a, w, h⟩) (pickOps l is) R a w hin h
 refine wpIn_region_any hm (AnyR.any _ _ [] _ _ ?_)
 refine RDc.anyP (more := is1.length + (is2.length + (is3.length + (ks.length + 1)))) (last := tick is0 (Array.replicate l.toArray.size false)) (Fin := fun R' a w => FinR w0 n _ R' a w ∧ R' = [])
  (fence_fn rd) h1 (Kx.steady hK.out) (fun R a w hp hf fuel hfu => ?_) is0 _ _ [] a _ (by omega) rfl c0 (fun _ _ h => (by cases h)) (RDl.rdc is0 _ [] a _ c0 (RDl.keep _ _ _ _ hpure (quit _ _ is0 _ _ _ (h hmem (fun _ h => (by cases h)) a _ hr hs.drew))))
 obtain ⟨⟨ρ, ds, L, hr, hs, _, R0, hR0, hw⟩, rfl⟩ := hf
 have hb := RDc.anyB (base := tick is2 (tick is0 (Array.replicate l.toArray.size false))) (more := is2.length + (is3.length + (ks.length + 1))) (last := tick is1 (tick is0 (Array.replicate l.toArray.size false)))
  (fence_fn rd) h1 (Kx.steady hK.out) (fun R1 a w hp hf fuel hfu => ?_) is1 fuel _ R0 a w (fun i hi => by simpa using List.all_eq_true.1 b1 i hi) (by omega) rfl c1 (fun b o hb => hs.pn b o (hR0 _ hb)) (RDl.rdc is1 _ R0 a w c1 (quit _ _ is1 _ _ _ (hw hmem hR0 a w hr hs)))
 ·exact AnyB.anyR _ _ _ _ _ hb
 obtain ⟨ρ, ds, L, hr, hs, hR1, hw⟩ := hf
 refine pure_anyB (more := is3.length + (ks.length + 1)) (last := tick is2 (tick is1 (tick is0 (Array.replicate l.toArray.size false)))) (fence_fn rd) h1 (Kx.steady hK.out) hp (fun a hf fuel hfu => ?_) is2 fuel _ a
  (fun i hi o ho => by have := List.all_eq_true.1 e2 i hi; rw [ho] at this; simpa using this) (by omega) rfl c2 (RDl.rdc is2 _ [] a w c2 (quit _ _ is2 _ _ _ (hw hmem (fun _ h => (by cases h)) a w hr hs)))
 obtain ⟨ρ, ds, L2, hr, hs, _, hw⟩ := hf
 obtain ⟨hR2, hw⟩ := hw R1 hR1
 refine RDc.anyB (more := ks.length + 1) (last := tick is3 (tick is2 (tick is1 (tick is0 (Array.replicate l.toArray.size false)))))
  (fence_fn rd) h1 (Kx.steady hK.out) (fun R3 a w hp hf fuel hfu => ?_) is3 fuel _ R1 a w (fun i hi => by simpa using List.all_eq_true.1 b3 i hi) (by omega) rfl c3 hp (RDl.rdc is3 _ R1 a w c3 (quit _ _ is3 _ _ _ (hw hmem hR2 a w hr hs)))
 obtain ⟨ρ, ds, L, hr, hs, hR3, hw⟩ := hf
 have hw : OW P w0 rd n l.toArray K (pickOps l (k :: ks)) ρ ds L := hw
 have h9 := hw (List.all_eq_true.2 fun o ho => hmem o ho) a w hr hs
 exact chain_anyB (k :: ks) fuel _ R3 a w (by simpa using hfu) hc (.inr fun k' hk => by
  obtain rfl : k' = k := by simpa using hk.symm
  exact hd) h9
end
end Go.Pw

namespace Go.Pw.Jd
open Go.Pw.Sc Go.Pw.Md Go.Pw.Or
theorem scanT_small {n : Int} {x : Hd} {k : Nat} {o : OutM} : ∀ l : List Row, (∀ w ∈ l, w.r.obytes.length ≤ 300) → scanT n x l = some (k, o) → o.bytes.length ≤ 300
 | [], _, h => by cases h
 | w :: l, hl, h => by
  rw [scanT] at h
  split at h
  ·cases h
  ·split at h
   ·cases h; exact hl w (List.mem_cons_self ..)
   ·exact scanT_small l (fun v hv => hl v (List.mem_cons_of_mem _ hv)) h
theorem allOf_small {x : Hd} : ∀ l : List Row, (∀ w ∈ l, w.t.obytes.length ≤ 300 ∧ w.r.obytes.length ≤ 300) → ∀ y ∈ allOf x l, y.op.bytes.length ≤ 300 ∧ y.out.bytes.length ≤ 300
 | [], _, _, h => by cases h
 | w :: l, hl, y, h => by
  have ih := allOf_small (x := x) l (fun v hv => hl v (List.mem_cons_of_mem _ hv)) y
  rw [allOf] at h
  split at h
  ·rcases List.mem_cons.1 h with h | h
   ·subst h
    refine ⟨(hl w (List.mem_cons_self ..)).1, ?_⟩
    unfold tdOf
    cases hs : scanT w.t.thread x l with
    | none => simp [outZ]
    | some r =>
     obtain ⟨k, o⟩ := r
     exact scanT_small l (fun v hv => (hl v (List.mem_cons_of_mem _ hv)).2) hs
   ·exact ih h
  ·exact ih h
theorem rows_mem {W : List (Turn × Rp)} {w : Row} (h : w ∈ rows W) : (w.t, w.r) ∈ W := by
 obtain ⟨i, hi⟩ := List.mem_iff_getElem?.1 h
 have hl : i < W.length := by
  have := List.getElem?_eq_some_iff.1 hi
  obtain ⟨h1, _⟩ := this
  rwa [rows_length] at h1
 rw [rows_get W hl] at hi
 cases hi
 exact List.getElem_mem hl
theorem zip_small {x : Hd} {ts : List Turn} {rs : List Rp} (h1 : ∀ t ∈ ts, t.obytes.length ≤ 300) (h2 : ∀ r ∈ rs, r.obytes.length ≤ 300) : ∀ y ∈ allOf x (rows (ts.zip rs)), y.op.bytes.length ≤ 300 ∧ y.out.bytes.length ≤ 300 :=
 allOf_small _ fun w hw => by
  have := List.of_mem_zip (rows_mem hw)
  exact ⟨h1 _ this.1, h2 _ this.2⟩
end Go.Pw.Jd

namespace Go.Pw.Jd
open Go.Pw.Sc Go.Pw.Md Go.Pw.Or
@[reducible] def hv (g : Int → Hd) : List Value := [.int .i64 (g 0).1, .int .i64 (g 0).2, .int .i64 (g 1).1, .int .i64 (g 1).2, .int .i64 (g 2).1, .int .i64 (g 2).2, .int .i64 (g 3).1, .int .i64 (g 3).2]
def gB (b : Bnd) : Int → Hd := fun n => (b n).getD (0, 0)
def HvAt (_ : Chunk) (c : List Value) (g : Int → Hd) : Prop := c = hv g
theorem four {a : Int} (h : 0 ≤ a ∧ a < 4) : a = 0 ∨ a = 1 ∨ a = 2 ∨ a = 3 := by omega
theorem hv_cut (g : Int → Hd) {a : Int} (h : 0 ≤ a ∧ a < 4) : CutL (hv g) (a.toNat * 2) 2 [.int .i64 (g a).1, .int .i64 (g a).2] := by
 rcases four h with rfl | rfl | rfl | rfl <;> exact ⟨by simp [hv], rfl⟩
theorem hv_put (g : Int → Hd) (x : Hd) {a : Int} (h : 0 ≤ a ∧ a < 4) : PutL (hv g) (a.toNat * 2) [.int .i64 x.1, .int .i64 x.2] (hv fun n => if n = a then x else g n) := by
 rcases four h with rfl | rfl | rfl | rfl <;> exact ⟨by simp [hv], rfl⟩
theorem hv_congr {g g' : Int → Hd} (h : ∀ n, 0 ≤ n → n < 4 → g n = g' n) : hv g = hv g' := by
 unfold hv
 rw [h 0 (by omega) (by omega), h 1 (by omega) (by omega), h 2 (by omega) (by omega), h 3 (by omega) (by omega)]
theorem cut_cut {l c u : List Value} {k n j m : Nat} (h : CutL l k n c) (h' : CutL c j m u) : CutL l (k + j) m u := by
 have h1 := h'.out
 have h2 := h.out
 have hl : c.length = n := by rw [← h2.2, List.length_take, List.length_drop]; omega
 have := cutSub h j m (by omega)
 rwa [h1.2] at this
theorem gB_bad {b : Bnd} {t : Turn} {r : Rp} (h : r.errno ≠ 0) : gB (bindStep b t r) = gB b := by
 unfold bindStep
 rw [if_neg (fun g => h g.1), if_neg (fun g => h g.1), if_neg (fun g => h g.1)]
theorem gB_destroy {b : Bnd} {t : Turn} {r : Rp} (h : r.errno = 0) (hk : t.kind = 2) : gB (bindStep b t r) = fun n => if gB b n = (t.hslot, t.hgen) then (0, 0) else gB b n := by
 unfold bindStep gB
 rw [if_pos ⟨h, hk⟩]
 funext n
 cases hb : b n with
 | none => simp
 | some x => by_cases e : x = (t.hslot, t.hgen) <;> simp [e]
theorem gB_bind {b : Bnd} {t : Turn} {r : Rp} (h : r.errno = 0) (hk : t.kind = 3) (ht : 0 ≤ t.thread ∧ t.thread < 4) : gB (bindStep b t r) = fun n => if n = t.thread then (t.hslot, t.hgen) else gB b n := by
 unfold bindStep gB
 rw [if_neg (fun g => by have := g.2; omega), if_pos ⟨h, ht, hk⟩]
 funext n
 by_cases e : n = t.thread
 ·by_cases e2 : (t.hslot, t.hgen) = ((0, 0) : Hd)
  ·rw [if_pos e, if_pos e, if_pos e2, e2]; rfl
  ·rw [if_pos e, if_pos e, if_neg e2]; rfl
 ·rw [if_neg e, if_neg e]
theorem gB_unbind {b : Bnd} {t : Turn} {r : Rp} (h : r.errno = 0) (hk : t.kind = 4) (ht : 0 ≤ t.thread ∧ t.thread < 4) : gB (bindStep b t r) = fun n => if n = t.thread then (0, 0) else gB b n := by
 unfold bindStep gB
 rw [if_neg (fun g => by have := g.2; omega), if_neg (fun g => by have := g.2.2; omega), if_pos ⟨h, ht, hk⟩]
 funext n
 by_cases e : n = t.thread
 ·rw [if_pos e, if_pos e]; rfl
 ·rw [if_neg e, if_neg e]
theorem gB_other {b : Bnd} {t : Turn} {r : Rp} (h2 : t.kind ≠ 2) (h3 : ¬ (t.kind = 3 ∧ 0 ≤ t.thread ∧ t.thread < 4)) (h4 : ¬ (t.kind = 4 ∧ 0 ≤ t.thread ∧ t.thread < 4)) : gB (bindStep b t r) = gB b := by
 unfold bindStep
 rw [if_neg (fun g => h2 g.2), if_neg (fun g => h3 ⟨g.2.2, g.2.1⟩), if_neg (fun g => h4 ⟨g.2.2, g.2.1⟩)]
def bounds (W : List (Turn × Rp)) (n : Nat) : List (Int → Hd) := (List.range n).map fun i => gB (bnd (W.take i))
theorem bounds_length (W : List (Turn × Rp)) (n : Nat) : (bounds W n).length = n := by simp [bounds]
theorem bounds_get (W : List (Turn × Rp)) {n i : Nat} (hi : i < n) : (bounds W n)[i]'(by rw [bounds_length]; exact hi) = gB (bnd (W.take i)) := by simp [bounds]
theorem bounds_snoc (W : List (Turn × Rp)) (n : Nat) : bounds W (n + 1) = bounds W n ++ [gB (bnd (W.take n))] := by simp [bounds, List.range_succ]
end Go.Pw.Jd

namespace Go.Pw
section
variable (P : Program) (w0 : World) (rd : Option Nat) (n : Nat) (l : List Oper) (K : Post) (R : Chunk)
def APW : AT → Env → List Deferred → Chunk → Prop
 | .done, ρ, ds, L => K .normal ρ ds L
 | .one i t, ρ, ds, L => OW P w0 rd n l.toArray (thenK (fun ρ ds L => (∀ p ∈ R, p ∈ L) ∧ APW t ρ ds L) K) (pickOps l [i]) ρ ds L
 | .two i j ti tj, ρ, ds, L => OW P w0 rd n l.toArray (thenK (fun ρ ds L => (∀ p ∈ R, p ∈ L) ∧ APW ti ρ ds L) K) (pickOps l [i]) ρ ds L ∧ OW P w0 rd n l.toArray (thenK (fun ρ ds L => (∀ p ∈ R, p ∈ L) ∧ APW tj ρ ds L) K) (pickOps l [j]) ρ ds L
end
section
variable {P : Program} {w0 : World} {rd : Option Nat} {n : Nat} {l : List Oper} {K : Post} {ρ : Env} {ds : List Deferred} {L R : Chunk}
theorem anyAP (h2 : l.toArray.all (dstOk n) = true) : ∀ (T : AT) (fuel : Nat) (listed : Array Bool) (ρ : Env) (ds : List Deferred) (L : Chunk) (a : Act) (w : World), T.len ≤ fuel → chkA l.toArray T listed = true → Rep n a ρ ds → St w0 w L →
  APW P w0 rd n l K R T ρ ds L → AnyR (fence rd) P l.toArray (Kx w0 n K) fuel listed R a w := by
 have hmem : ∀ {is : List Nat} (o : Oper), o ∈ pickOps l is → dstOk n o = true := fun o ho => Array.all_eq_true_iff_forall_mem.1 h2 o (by simpa using pickOps_mem ho)
 have step : ∀ (i : Nat) (t : AT) (fuel : Nat) (listed : Array Bool), (l.toArray[i]?).isSome = true →
   (∀ ρ ds L a w, Rep n a ρ ds → St w0 w L → APW P w0 rd n l K R t ρ ds L → AnyR (fence rd) P l.toArray (Kx w0 n K) fuel (listed.setIfInBounds i true) R a w) →
   ∀ ρ ds L a w, Rep n a ρ ds → St w0 w L → OW P w0 rd n l.toArray (thenK (fun ρ ds L => (∀ p ∈ R, p ∈ L) ∧ APW P w0 rd n l K R t ρ ds L) K) (pickOps l [i]) ρ ds L →
   wpOpIn (fence rd) 0 P l.toArray (Kx w0 n K) i (fun a' w' => ∃ R', ((∀ p ∈ R, p ∈ R') ∨ depAll l.toArray listed i = true) ∧ Pn w' R' ∧ AnyR (fence rd) P l.toArray (Kx w0 n K) fuel (listed.setIfInBounds i true) R' a' w') a w := by
  intro i t fuel listed hi ih ρ ds L a w hr hs hw
  obtain ⟨o, ho⟩ := Option.isSome_iff_exists.1 hi
  have hn : nthOp l i = some o := by rw [nthOp_eq]; simpa using ho
  have h9 := hw (List.all_eq_true.2 fun o ho => hmem o ho) a w hr hs
  simp only [pickOps, hn] at h9
  have h10 : opIn (fence rd) P l.toArray (Kx w0 n (thenK (fun ρ ds L => (∀ p ∈ R, p ∈ L) ∧ APW P w0 rd n l K R t ρ ds L) K)) o (fun a' w' => Kx w0 n (thenK (fun ρ ds L => (∀ p ∈ R, p ∈ L) ∧ APW P w0 rd n l K R t ρ ds L) K) .normal a' w') a w := h9
  have h11 := opIn_quit (Q' := Kx w0 n K) (fun e a w h => h) (fun ⟨a, w, h⟩ => ⟨a, w, h⟩) h10
  rw [opIn_eq ho] at h11
  exact wpOpIn_mono (fun a' w' ⟨ρ', ds', L', x, y, hRL, z⟩ => ⟨R, .inl fun _ h => h, fun b o hb => y.pn b o (hRL _ hb), ih ρ' ds' L' a' w' x y z⟩) h11
 intro T
 induction T with
 | done =>
  intro fuel listed ρ ds L a w _ hc hr hs h
  have hc : (Region.ready .any l.toArray listed).isEmpty = true := hc
  have he : Region.ready .any l.toArray listed = [] := by simpa using hc
  exact AnyR.done he ⟨ρ, ds, L, hr, hs, h⟩ fuel
 | one i t ih =>
  intro fuel listed ρ ds L a w hl hc hr hs h
  simp only [chkA, Bool.and_eq_true, beq_iff_eq] at hc
  obtain ⟨⟨c1, c2⟩, c3⟩ := hc
  have hl : t.len + 1 ≤ fuel := hl
  obtain ⟨fuel, rfl⟩ : ∃ k, fuel = k + 1 := ⟨fuel - 1, by omega⟩
  refine ⟨fun h0 => (by rw [c1] at h0; cases h0), fun k hk => ?_⟩
  rw [c1] at hk
  obtain rfl : k = i := by simpa using hk
  exact step k t fuel listed c2 (fun ρ ds L a w hr hs h => ih fuel _ ρ ds L a w (by omega) c3 hr hs h) ρ ds L a w hr hs h
 | two i j ti tj ihi ihj =>
  intro fuel listed ρ ds L a w hl hc hr hs h
  simp only [chkA, Bool.and_eq_true, beq_iff_eq] at hc
  obtain ⟨⟨⟨⟨c1, c2⟩, c3⟩, c4⟩, c5⟩ := hc
  have hl : max ti.len tj.len + 1 ≤ fuel := hl
  obtain ⟨fuel, rfl⟩ : ∃ k, fuel = k + 1 := ⟨fuel - 1, by omega⟩
  refine ⟨fun h0 => (by rw [c1] at h0; cases h0), fun k hk => ?_⟩
  rw [c1] at hk
  rcases List.mem_cons.1 hk with rfl | hk
  ·exact step k ti fuel listed c2 (fun ρ ds L a w hr hs h => ihi fuel _ ρ ds L a w (by omega) c4 hr hs h) ρ ds L a w hr hs h.1
  ·obtain rfl : k = j := by simpa using hk
   exact step k tj fuel listed c3 (fun ρ ds L a w hr hs h => ihj fuel _ ρ ds L a w (by omega) c5 hr hs h) ρ ds L a w hr hs h.2
def regionOkPA (n : Nat) (ops : Array Oper) (is0 : List Nat) (T : AT) : Bool :=
 noOdd ops && ops.all (dstOk n) && decide (is0.length + T.len ≤ ops.size) && chkP ops is0 (Array.replicate ops.size false) && (pickOps ops.toList is0).all (fun o => !isEff o) && chkA ops T (tick is0 (Array.replicate ops.size false))
theorem CW.drawsPA {id : Nat} (is0 : List Nat) (T : AT) (R : Chunk) (hm : P.follows .mixedOrders = true) (hok : regionOkPA n l.toArray is0 T = true) [hK : StdC K] [hR : MemC R L] {l0 : List Oper} [p0 : Pick l is0 l0]
  (h : RW P w0 rd n l.toArray (thenK (fun ρ ds L => APW P w0 rd n l K R T ρ ds L) K) l0 R ρ ds L) : CW P w0 rd n (.region id l.toArray true) K ρ ds L := by
 have := p0.out; subst this
 intro a w hr hs
 simp only [regionOkPA, Bool.and_eq_true, decide_eq_true_eq] at hok
 obtain ⟨⟨⟨⟨⟨h1, h2⟩, h3⟩, h4⟩, h5⟩, h6⟩ := hok
 have hpure : ∀ o ∈ pickOps l is0, isEff o = false := fun o ho => by simpa using List.all_eq_true.1 h5 o ho
 have hmem : ∀ {is : List Nat} (o : Oper), o ∈ pickOps l is → dstOk n o = true := fun o ho => Array.all_eq_true_iff_forall_mem.1 h2 o (by simpa using pickOps_mem ho)
 have hin : ∀ {is : List Nat}, ∀ o ∈ pickOps l is, ∃ i : Nat, l.toArray[i]? = some o := fun o ho => by
  obtain ⟨k, hk⟩ := List.mem_iff_getElem?.1 (pickOps_mem ho)
  exact ⟨k, by simpa using hk⟩
 refine wpIn_region_any hm (AnyR.any _ _ R _ _ ?_)
 refine RDc.anyP (more := T.len) (last := tick is0 (Array.replicate l.toArray.size false)) (Fin := fun R' a w => FinR w0 n (thenK (fun ρ ds L => APW P w0 rd n l K R T ρ ds L) K) R' a w ∧ R' = R)
  (fence_fn rd) h1 (Kx.steady hK.out) (fun R' a w hp hf fuel hfu => ?_) is0 _ _ R a _ h3 rfl h4 (hs.pn.sub hR.out) (RDl.rdc is0 _ R a _ h4 ?_)
 ·obtain ⟨⟨ρ, ds, L, hr, hs, _, hw⟩, rfl⟩ := hf
  exact anyAP h2 T fuel _ ρ ds L a w hfu h6 hr hs hw
 ·exact RDl.keep _ _ _ _ hpure (RDl.quit (Q' := Kx w0 n K) (Q := Kx w0 n (thenK (fun ρ ds L => APW P w0 rd n l K R T ρ ds L) K)) (fun e a w h => h) (fun ⟨a, w, h⟩ => ⟨a, w, h⟩) (pickOps l is0) R a _ hin (h hmem hR.out a _ hr hs.drew))
theorem APW.d (h : K .normal ρ ds L) : APW P w0 rd n l K R .done ρ ds L := h
theorem APW.o {i : Nat} {t : AT} {l' : List Oper} [hp : Pick l [i] l'] (h : OW P w0 rd n l.toArray (thenK (fun ρ ds L => (∀ p ∈ R, p ∈ L) ∧ APW P w0 rd n l K R t ρ ds L) K) l' ρ ds L) : APW P w0 rd n l K R (.one i t) ρ ds L := by
 have := hp.out; subst this; exact h
theorem APW.t {i j : Nat} {ti tj : AT} {li lj : List Oper} [hp : Pick l [i] li] [hq : Pick l [j] lj] (h : OW P w0 rd n l.toArray (thenK (fun ρ ds L => (∀ p ∈ R, p ∈ L) ∧ APW P w0 rd n l K R ti ρ ds L) K) li ρ ds L) (h' : OW P w0 rd n l.toArray (thenK (fun ρ ds L => (∀ p ∈ R, p ∈ L) ∧ APW P w0 rd n l K R tj ρ ds L) K) lj ρ ds L) :
  APW P w0 rd n l K R (.two i j ti tj) ρ ds L := by
 have := hp.out; subst this
 have := hq.out; subst this
 exact ⟨h, h'⟩
end
end Go.Pw
