/-
  For every input the law OrderTouch returns true, and each argument reads behind the call as it read before. This text holds lemmas for it (part 3).
  Conditions: none.
-/
import Derived.Test.YtmnhooepaemlcaaGreatOT1
import Derived.Test.YtmnhooepaemlcaaGreatOT2
import Derived.SizedLaws
set_option linter.all false
namespace Go.Pw.Md
theorem charge_without {m : Mod} (hm : WF m) {p : Pc} (hp : p ∈ m.L) : ((m.L.filter fun q => decide (q.ad ≠ p.ad)).map Pc.room).sum = m.charge - p.room := by
 have key : ∀ (l : List Pc), (l.Pairwise fun p q => p.ad + p.room ≤ q.ad) → (∀ p ∈ l, PcOk p) → p ∈ l → ((l.filter fun q => decide (q.ad ≠ p.ad)).map Pc.room).sum = (l.map Pc.room).sum - p.room := by
  intro l
  induction l with
  | nil => intro _ _ h; cases h
  | cons x l ih =>
   intro hl hok hp
   rw [List.pairwise_cons] at hl
   have rx := (hok x (List.mem_cons_self ..)).room
   rcases List.mem_cons.1 hp with rfl | hp1
   ·rw [List.filter_cons_of_neg (by simp), List.filter_eq_self.2]
    ·simp only [List.map_cons, List.sum_cons]; omega
    ·intro q hq
     have := hl.1 q hq
     simp only [decide_eq_true_eq]; omega
   ·have := hl.1 p hp1
    rw [List.filter_cons_of_pos (by simp only [decide_eq_true_eq]; omega)]
    have := ih hl.2 (fun p hp => hok p (List.mem_cons_of_mem _ hp)) hp1
    simp only [List.map_cons, List.sum_cons]; omega
 exact key m.L hm.apart hm.ok hp
theorem access_wf {m : Mod} (hm : WF m) {kind ad many : Int} {o : OutM} {bs : List Int} (hb : ∀ x ∈ bs, 0 ≤ x ∧ x ≤ 255) (h : (access m kind ad o bs many).2 = true) : WF (access m kind ad o bs many).1 := by
 unfold access at *
 repeat' split
 all_goals first | exact hm | skip
 exact map_wf hm fun p hp => ⟨over_ok (hm.ok p hp) hb, rfl, rfl⟩
theorem realloc_wf {m : Mod} (hm : WF m) {x : OpM} {o : OutM} (ho : 0 ≤ o.ad) (h : (realloc m x o).2 = true) : WF (realloc m x o).1 := by
 unfold realloc at *
 cases hf : m.find x.ad with
 | none => simp only; exact hm
 | some p =>
  obtain ⟨hp, hpa⟩ := find_some hf
  have okp := hm.ok p hp
  rw [hf] at h
  simp only at h ⊢
  cases hn : needOf x.size 1 with
  | none => simp only; exact hm
  | some nd =>
   rw [hn] at h
   simp only at h ⊢
   obtain ⟨c1, c2, c3⟩ := needOf_charge hn
   split
   ·rename_i hg
    split
    ·refine map_wf hm fun q hq => ?_
     have oq := hm.ok q hq
     split
     ·rename_i he
      refine ⟨⟨oq.ad, oq.room, oq.fin, ?_, ?_, oq.len, oq.byt⟩, rfl, rfl⟩
      ·simp only; omega
      ·have := find_of hm hq
       rw [he, find_of hm hp] at this
       cases this
       simp only; omega
     ·exact ⟨oq, rfl, rfl⟩
    ·exact hm
   ·rename_i hg
    rw [if_neg hg] at h
    have hlen : ((p.b.take (min p.size (max 1 x.size)).toNat).length : Int) ≤ nd.charge := by
     rw [List.length_take]; omega
    have hby : ∀ z ∈ p.b.take (min p.size (max 1 x.size)).toNat, -1 ≤ z ∧ z ≤ 255 := fun z hz => okp.byt z (List.mem_of_mem_take hz)
    have hh := handed_wf hm (x := nd) (size := x.size) (mult := 1) (less := p.room) (o := o) (b := p.b.take (min p.size (max 1 x.size)).toNat) ho c1 hlen hby
    generalize hr : handed m nd x.size 1 p.room o (p.b.take (min p.size (max 1 x.size)).toNat) = r at h hh ⊢
    by_cases he : r.2 = true ∧ o.errno = 0
    ·simp only [if_pos he] at h ⊢
     obtain ⟨e1, e2, e3, e4⟩ := (hh he.1).2 he.2
     rw [e1]
     generalize hq : piece o.ad x.size nd.charge (p.b.take (min p.size (max 1 x.size)).toNat) = q at e2 ⊢
     have hqa : q.ad = o.ad ∧ q.room = nd.charge := by subst hq; exact ⟨rfl, rfl⟩
     have hfit := e3.2.2.2.2
     have hne : q.ad ≠ p.ad := fun e => by
      have := hfit p hp
      have := e2.room
      have := okp.room
      omega
     refine ⟨hm.slot0, hm.slot1, hm.quota0, hm.quota1, ?_, fun z hz => ?_, ?_⟩
     ·exact (ins_apart hm.apart hm.ok (fun z hz => by rw [hqa.1, hqa.2]; exact hfit z hz) e2.room).filter _
     ·rcases List.mem_cons.1 ((ins_perm q m.L).mem_iff.1 (List.mem_filter.1 hz).1) with rfl | hz
      ·exact e2
      ·exact hm.ok z hz
     ·have h1 := sum_perm ((ins_perm q m.L).filter fun z => decide (z.ad ≠ p.ad))
      have h2 := charge_without hm hp
      rw [List.filter_cons_of_pos (by simpa using hne)] at h1
      simp only [List.map_cons, List.sum_cons] at h1
      unfold Mod.charge Mod.without at *
      simp only at *
      omega
    ·simp only [if_neg he] at h ⊢
     have : o.errno ≠ 0 := fun e => he ⟨h, e⟩
     rw [(hh h).1 this]
     exact hm
theorem handed_wf' {m : Mod} (hm : WF m) {x : NeedM} {size mult : Int} {o : OutM} {b : List Int} (h0 : 0 ≤ o.ad) (hs : max 1 size ≤ x.charge) (hb : (b.length : Int) ≤ x.charge) (hy : ∀ z ∈ b, -1 ≤ z ∧ z ≤ 255)
  (h : (handed m x size mult 0 o b).2 = true) : WF (handed m x size mult 0 o b).1 := by
 have hh := handed_wf (mult := mult) (less := 0) hm h0 hs hb hy h
 by_cases he : o.errno = 0
 ·obtain ⟨e1, e2, e3, e4⟩ := hh.2 he
  rw [e1]
  exact ins_wf hm e2 (fun q hq => e3.2.2.2.2 q hq) (by
   have : (piece o.ad size x.charge b).room = x.charge := rfl
   omega)
 ·rw [hh.1 he]; exact hm
theorem step_wf {m : Mod} (hm : WF m) {x : OpM} {o : OutM} (ho : 0 ≤ o.ad) (hx : ∀ z ∈ x.bytes, 0 ≤ z ∧ z ≤ 255) (hob : ∀ z ∈ o.bytes, 0 ≤ z ∧ z ≤ 255) (h : (step m x o).2 = true) : WF (step m x o).1 := by
 unfold step at *
 split
 ·rename_i hk
  rw [if_pos hk] at h
  cases hn : needOf x.size x.mult with
  | none => exact hm
  | some nd =>
   rw [hn] at h
   obtain ⟨c1, c2, c3⟩ := needOf_charge hn
   exact handed_wf' hm ho c1 (by simp only [List.length_nil]; omega) (fun _ h => (by cases h)) h
 ·rename_i hk
  rw [if_neg hk] at h
  split
  ·rename_i hk
   rw [if_pos hk] at h
   cases ht : total x.many x.size with
   | none => exact hm
   | some t =>
    rw [ht] at h
    simp only at h ⊢
    cases hn : needOf t 1 with
    | none => exact hm
    | some nd =>
     rw [hn] at h
     obtain ⟨c1, c2, c3⟩ := needOf_charge hn
     exact handed_wf' hm ho c1 (by simp only [List.length_replicate]; omega) (fun z hz => by rw [List.mem_replicate] at hz; omega) h
  ·rename_i hk
   rw [if_neg hk] at h
   split
   ·rename_i hk
    cases hf : m.find x.ad with
    | none => exact hm
    | some p =>
     simp only
     split
     ·exact without_wf hm _
     ·exact hm
   ·rename_i hk
    rw [if_neg hk] at h
    split
    ·rename_i hk
     rw [if_pos hk] at h
     exact realloc_wf hm ho h
    ·rename_i hk
     rw [if_neg hk] at h
     split
     ·cases hf : m.find x.ad with
      | none => exact hm
      | some p => exact hm
     ·rename_i hk
      rw [if_neg hk] at h
      split
      ·rename_i hk
       rw [if_pos hk] at h
       exact access_wf hm hob h
      ·rename_i hk
       rw [if_neg hk] at h
       split
       ·exact hm
       ·rename_i hb
        rw [if_neg hb] at h
        exact access_wf hm hx h
theorem start_wf {slot quota : Int} (h : 0 ≤ slot ∧ slot < 4 ∧ 0 ≤ quota ∧ quota ≤ 1073741824) : WF ⟨slot, quota, []⟩ :=
 ⟨h.1, h.2.1, h.2.2.1, h.2.2.2, .nil, fun _ h => (by cases h), by simpa [Mod.charge] using h.2.2.1⟩
end Go.Pw.Md

namespace Go.Pw.Md
def Keeps (m : Mod) (m' : Mod) : Prop := m'.slot = m.slot ∧ m'.quota = m.quota
theorem Keeps.rfl (m : Mod) : Keeps m m := ⟨_root_.rfl, _root_.rfl⟩
theorem handed_keeps (m : Mod) (x : NeedM) (size mult less : Int) (o : OutM) (b : List Int) : Keeps m (handed m x size mult less o b).1 := by
 unfold handed
 split
 ·exact .rfl m
 ·split
  ·exact .rfl m
  ·split
   ·exact ⟨rfl, rfl⟩
   ·exact .rfl m
theorem access_keeps (m : Mod) (kind ad : Int) (o : OutM) (bs : List Int) (many : Int) : Keeps m (access m kind ad o bs many).1 := by
 unfold access
 split
 ·exact .rfl m
 ·split
  ·exact .rfl m
  ·split
   ·exact .rfl m
   ·split
    ·exact ⟨rfl, rfl⟩
    ·exact .rfl m
theorem realloc_keeps (m : Mod) (x : OpM) (o : OutM) : Keeps m (realloc m x o).1 := by
 unfold realloc
 split
 ·exact .rfl m
 ·split
  ·exact .rfl m
  ·split
   ·split
    ·exact ⟨rfl, rfl⟩
    ·exact .rfl m
   ·simp only
    split
    ·exact ⟨(handed_keeps ..).1, (handed_keeps ..).2⟩
    ·exact handed_keeps ..
theorem step_keeps (m : Mod) (x : OpM) (o : OutM) : Keeps m (step m x o).1 := by
 unfold step
 repeat' split
 all_goals first
  | exact .rfl m
  | exact handed_keeps ..
  | exact access_keeps ..
  | exact realloc_keeps ..
  | exact ⟨rfl, rfl⟩
def next (m : Mod) (x : OpM) (o : OutM) : Mod × Bool := if 1 ≤ x.kind ∧ x.kind ≤ 7 then step m x o else (m, false)
def nextE (x : OpM) : Int := if 1 ≤ x.kind ∧ x.kind ≤ 7 then 0 else 2
theorem next_keeps (m : Mod) (x : OpM) (o : OutM) : Keeps m (next m x o).1 := by
 unfold next
 split
 ·exact step_keeps ..
 ·exact .rfl m
theorem next_wf {m : Mod} (hm : WF m) {x : OpM} {o : OutM} (ho : 0 ≤ o.ad) (hx : ∀ z ∈ x.bytes, 0 ≤ z ∧ z ≤ 255) (hob : ∀ z ∈ o.bytes, 0 ≤ z ∧ z ≤ 255) (h : (next m x o).2 = true) : WF (next m x o).1 := by
 unfold next at *
 split
 ·rename_i hk
  rw [if_pos hk] at h
  exact step_wf hm ho hx hob h
 ·exact hm
def after (m : Mod) (x : OpM) (o : OutM) : Mod := if (next m x o).2 then (next m x o).1 else m
theorem after_keeps (m : Mod) (x : OpM) (o : OutM) : Keeps m (after m x o) := by
 unfold after
 split
 ·exact next_keeps ..
 ·exact .rfl m
theorem after_wf {m : Mod} (hm : WF m) {x : OpM} {o : OutM} (ho : 0 ≤ o.ad) (hx : ∀ z ∈ x.bytes, 0 ≤ z ∧ z ≤ 255) (hob : ∀ z ∈ o.bytes, 0 ≤ z ∧ z ≤ 255) : WF (after m x o) := by
 unfold after
 split
 ·rename_i h
  exact next_wf hm ho hx hob h
 ·exact hm
end Go.Pw.Md

namespace Go.Pw.Md
open Go.Pw.Sc
def LAt {α : Type} (s : Nat) (R : List Value → α → Prop) : List Value → List α → Prop
 | xs, [] => xs = []
 | xs, a :: ags => ∃ c r, xs = c ++ r ∧ c.length = s ∧ R c a ∧ LAt s R r ags
section
variable {α : Type} {s : Nat} {R R' : List Value → α → Prop}
theorem LAt.mono (hm : ∀ c a, R c a → R' c a) : ∀ {xs : List Value} {ags : List α}, LAt s R xs ags → LAt s R' xs ags
 | _, [], h => h
 | _, _ :: _, ⟨c, r, e, h0, h1, h2⟩ => ⟨c, r, e, h0, hm _ _ h1, LAt.mono hm h2⟩
theorem LAt.length : ∀ {xs : List Value} {ags : List α}, LAt s R xs ags → xs.length = ags.length * s
 | xs, [], h => by have : xs = [] := h; simp [this]
 | _, t :: ts, ⟨c, r, e, h0, h1, h2⟩ => by rw [e, List.length_append, h0, LAt.length h2, List.length_cons, Nat.add_mul]; omega
theorem LAt.append : ∀ {xs ys : List Value} {ags bs : List α}, LAt s R xs ags → LAt s R ys bs → LAt s R (xs ++ ys) (ags ++ bs)
 | xs, ys, [], bs, h, h1 => by have : xs = [] := h; rw [this]; exact h1
 | _, ys, a :: ags, bs, ⟨c, r, e, h0, h1, h2⟩, h3 => ⟨c, r ++ ys, by rw [e, List.append_assoc], h0, h1, LAt.append h2 h3⟩
theorem LAt.one {c : List Value} {a : α} (h0 : c.length = s) (h : R c a) : LAt s R c [a] := ⟨c, [], by simp, h0, h, rfl⟩
theorem LAt.get : ∀ {xs : List Value} {ags : List α} (i : Nat) (hi : i < ags.length), LAt s R xs ags → R ((xs.drop (i * s)).take s) ags[i]
 | _, _ :: _, 0, _, ⟨c, r, e, h0, h1, h2⟩ => by
  rw [e, Nat.zero_mul, List.drop_zero, List.take_append_of_le_length (by omega), List.take_of_length_le (by omega)]
  exact h1
 | _, _ :: ts, i + 1, hi, ⟨c, r, e, h0, h1, h2⟩ => by
  have h3 := LAt.get i (by simpa using hi) h2
  have e1 : (c ++ r).drop ((i + 1) * s) = r.drop (i * s) := by
   rw [show (i + 1) * s = c.length + i * s by rw [h0, Nat.add_mul]; omega, ← List.drop_drop, List.drop_left]
  rw [e, e1]
  exact h3
end
structure LS {α : Type} (s : Nat) (R : Chunk → List Value → α → Prop) (L : Chunk) (v : Value) (ags : List α) : Prop where
 rd : ∃ xs, Rd L s v ags.length xs ∧ LAt s (R L) xs ags
 len : (ags.length : Int) ≤ 9223372036854775807
section
variable {α : Type} {s : Nat} {R : Chunk → List Value → α → Prop} {L L' : Chunk} {v : Value} {ags : List α}
theorem LS.to (h : LS s R L v ags) [hm : MemC L L'] (hR : ∀ c a, R L c a → R L' c a) : LS s R L' v ags := ⟨let ⟨xs, a, b⟩ := h.rd; ⟨xs, a.to, b.mono hR⟩, h.len⟩
theorem LS.slice (h : LS s R L v ags) : ∃ a c, v = .slice a ags.length c := let ⟨_, a, _⟩ := h.rd; let ⟨b, c, h, _⟩ := a.isSlice; ⟨b, c, h⟩
theorem LS.sng (h : LS s R L v ags) : Sng v := by obtain ⟨a, c, rfl⟩ := h.slice; infer_instance
theorem LS.open (h : LS s R L v ags) (hn : ags.length ≠ 0) :
  ∃ b k cap l e fr, v = .slice (some ⟨b, k, none⟩) ags.length cap ∧ InC L b (.cells (List.toArray l) e fr) ∧ ags.length ≤ cap ∧ ∀ i (hi : i < ags.length), ∃ c, CutL l (k + i * s) s c ∧ R L c ags[i] := by
 obtain ⟨xs, hr, hl⟩ := h.rd
 obtain ⟨b, k, cap, l, e, fr, h1, h2, h3, h4⟩ := hr.open hn
 exact ⟨b, k, cap, l, e, fr, h1, h2, h3, fun i hi => ⟨_, h4 i hi, hl.get i hi⟩⟩
end
theorem cutSub {l c : List Value} {k n : Nat} (h : CutL l k n c) (a m : Nat) (ham : a + m ≤ n) : CutL l (k + a) m ((c.drop a).take m) := ⟨by
 have := h.out.1; omega, by
 rw [← h.out.2]
 simp only [List.drop_take, List.take_take, List.drop_drop]
 congr 1
 omega⟩
structure ActM where
 op : OpM
 out : OutM
 ask : Bool
structure OpR0 (x : OpM) : Prop where
 kind : inR .i64 x.kind
 ad : inR .u32 x.ad
 size : inR .u64 x.size
 mult : inR .u64 x.mult
 many : inR .u64 x.many
structure OutR0 (o : OutM) : Prop where
 errno : inR .i64 o.errno
 ad : inR .u32 o.ad
 n : inR .i64 o.n
@[reducible] def opC (x : OpM) (vx : Value) : List Value := [.int .i64 x.kind, .int .u32 x.ad, .int .u64 x.size, .int .u64 x.mult, .int .u64 x.many, vx]
@[reducible] def outC (o : OutM) (vb : Value) : List Value := [.int .i64 o.errno, .int .u32 o.ad, .int .i64 o.n, vb]
def ActAt (L : Chunk) (c : List Value) (a : ActM) : Prop := ∃ vx vb, c = opC a.op vx ++ outC a.out vb ++ [.bool a.ask] ∧ BS L vx a.op.bytes ∧ BS L vb a.out.bytes ∧ OpR0 a.op ∧ OutR0 a.out
def OutAt (L : Chunk) (c : List Value) (o : OutM) : Prop := ∃ vb, c = outC o vb ∧ BS L vb o.bytes ∧ OutR0 o
theorem ActAt.to {L L' : Chunk} [hm : MemC L L'] (c : List Value) (a : ActM) (h : ActAt L c a) : ActAt L' c a := let ⟨vx, vb, a, b, c, d⟩ := h; ⟨vx, vb, a, b.to, c.to, d⟩
theorem OutAt.to {L L' : Chunk} [hm : MemC L L'] (c : List Value) (a : OutM) (h : OutAt L c a) : OutAt L' c a := let ⟨vb, a, b, c⟩ := h; ⟨vb, a, b.to, c⟩
end Go.Pw.Md

namespace Go.Pw.Md
open Go.ChangeShapes Go.WideShapes Go.Pw.Sc
section
variable {H : Type} {enc : TypeId × Value → H} {P : Program} {w : World} {base : Nat} {spare : Nat → Bool} {held : Bool}
theorem LS.nil {α : Type} {s : Nat} {R : Chunk → List Value → α → Prop} {L : Chunk} : LS s R L (.slice none 0 0) [] := ⟨⟨[], ⟨by simp, .inl ⟨⟨_, _, rfl⟩, rfl⟩⟩, rfl⟩, by simp⟩
theorem ls_of_trod {α : Type} [Inhabited α] {s : Nat} {R : Chunk → List Value → α → Prop} {t e : TypeId} {fuel : Nat} {cs : List Value} {x : DataW H × List MemPlace} (hs0 : 0 < s) (ht : P.underlying t = some (.slice e)) (hc : P.cellsOf e = s)
  (hel : ∀ (fuel : Nat) (cs : List Value) (x : DataW H × List MemPlace), DataW.trod enc P w base spare held fuel e cs = some x → ∃ u, R (whole w) cs u ∧ cs.length = s)
  (h : DataW.trod enc P w base spare held fuel t cs = some x) : ∃ v ags, cs = [v] ∧ LS s R (whole w) v ags ∧ (ags = [] ∨ ∃ elems sp, x.1 = .slice elems sp ∧ elems.length = ags.length) := by
 rcases Go.Deep.open_slice ht h with ⟨rfl, _⟩ | ⟨a, len, cap, m, n, D, Pl, rfl, hb, hl, hm, hmm, hxx, hx⟩
 ·exact ⟨_, [], rfl, LS.nil, .inl rfl⟩
 ·rw [hc] at hx
  have hle : len ≤ m := by rw [hmm]; split <;> omega
  have hcap : (cap : Int) ≤ 9223372036854775807 := by have : cap ≤ maxLen := hm; unfold maxLen at this; omega
  by_cases h0 : len = 0
  ·subst h0
   exact ⟨_, [], rfl, ⟨⟨[], ⟨by simp, .inl ⟨⟨_, _, rfl⟩, rfl⟩⟩, rfl⟩, by simp⟩, .inl rfl⟩
  ·obtain ⟨T, hT⟩ := Go.Deep.choose_lt (α := List Value × α) (n := len) (p := fun i p => w.cells? base (a.add (i * s)) s = some p.1 ∧ R (whole w) p.1 p.2 ∧ p.1.length = s) (fun i hi => by
    obtain ⟨cs', h1, h2⟩ := hx i (by omega)
    obtain ⟨u, hu, hu2⟩ := hel _ _ _ h2
    exact ⟨(cs', u), h1, hu, hu2⟩)
   have hdm : ∀ i j, j < s → (i * s + j) / s = i ∧ (i * s + j) % s = j := fun i j hj => by
    refine ⟨?_, ?_⟩
    ·rw [Nat.mul_comm, Nat.mul_add_div hs0, Nat.div_eq_of_lt hj, Nat.add_zero]
    ·rw [Nat.mul_comm, Nat.mul_add_mod, Nat.mod_eq_of_lt hj]
   have hV : ∀ j, j < len * s → w.cell? (a.add j) = some (((T (j / s)).1)[j % s]?.getD .nilFunc) := fun j hj => by
    have hd : j / s < len := (Nat.div_lt_iff_lt_mul hs0).2 hj
    have hmod : j % s < s := Nat.mod_lt _ hs0
    obtain ⟨g1, g2, hl13⟩ := hT (j / s) hd
    obtain ⟨_, g3, g4⟩ := World.cells?_some g1
    have g5 := g4 (j % s) (by omega)
    rw [Go.Deep.add_add, Nat.div_add_mod' j s] at g5
    rw [g5, List.getElem?_eq_getElem (by omega)]
    rfl
   obtain ⟨b, k, c, ee, fr, rfl, h1, h2, h3⟩ := cells_row (w := w) (a := a) (n := len * s) (V := fun j => ((T (j / s)).1)[j % s]?.getD .nilFunc) (Nat.mul_pos (by omega) hs0) hV
   have key : ∀ q, q ≤ len → (List.range (q * s)).map (fun j => ((T (j / s)).1)[j % s]?.getD .nilFunc) = ((List.range q).map fun i => (T i).1).flatten ∧ LAt s (R (whole w)) ((List.range q).map fun i => (T i).1).flatten ((List.range q).map fun i => (T i).2) := by
    intro q
    induction q with
    | zero => intro _; exact ⟨by simp, rfl⟩
    | succ q ih =>
     intro hq
     obtain ⟨i1, i2⟩ := ih (by omega)
     obtain ⟨g1, g2, hl13⟩ := hT q (by omega)
     have e1 : (List.range ((q + 1) * s)).map (fun j => ((T (j / s)).1)[j % s]?.getD .nilFunc) = (List.range (q * s)).map (fun j => ((T (j / s)).1)[j % s]?.getD .nilFunc) ++ (T q).1 := by
      rw [Nat.add_mul, Nat.one_mul, List.range_add, List.map_append]
      congr 1
      apply List.ext_getElem?
      intro j
      by_cases hj : j < s
      ·obtain ⟨d1, d2⟩ := hdm q j hj
       simp [hj, d1, d2, List.getElem?_eq_getElem (show j < (T q).1.length by omega)]
      ·simp [hj, List.getElem?_eq_none (show (T q).1.length ≤ j by omega)]
     refine ⟨?_, ?_⟩
     ·rw [e1, i1, List.range_succ, List.map_append, List.flatten_append]; simp
     ·rw [List.range_succ, List.map_append, List.map_append, List.flatten_append]
      simp only [List.map_cons, List.map_nil, List.flatten_cons, List.flatten_nil, List.append_nil]
      exact LAt.append i2 (LAt.one hl13 g2)
   obtain ⟨k1, k2⟩ := key len (Nat.le_refl _)
   refine ⟨_, (List.range len).map fun i => (T i).2, rfl, ⟨⟨_, ⟨?_, .inr ⟨b, k, cap, c, ee, fr, by simp, mem_whole.2 h1, by simpa using h2, ?_, by simp; omega⟩⟩, k2⟩, by simp; omega⟩, .inr ⟨_, _, by rw [hxx], by simp⟩⟩
   ·rw [k2.length]
   ·simp only [List.length_map, List.length_range]
    rw [h3, k1]
end
end Go.Pw.Md

namespace Go.Pw.Or
open Go.Pw.Sc Go.Pw.Md
structure Td where
 thread : Int
 op : OpM
 out : OutM
 from_ : Int
 to_ : Int
def aheadP (a b : Td) : Prop := a.to_ < b.from_
instance (a b : Td) : Decidable (aheadP a b) := by unfold aheadP; infer_instance
def callOk (x : Td) : Prop := 0 ≤ x.thread ∧ x.thread < 4 ∧ 0 ≤ x.from_ ∧ x.from_ ≤ x.to_ ∧ 1 ≤ x.op.kind ∧ x.op.kind ≤ 7
instance (x : Td) : Decidable (callOk x) := by unfold callOk; infer_instance
def cross (x y : Td) : Prop := x.thread = y.thread ∧ ¬ aheadP x y ∧ ¬ aheadP y x
instance (x y : Td) : Decidable (cross x y) := by unfold cross; infer_instance
def badAt (l : List Td) (i : Nat) : Bool := match l[i]? with
 | some x => !decide (callOk x) || (l.take i).any (fun y => decide (cross y x))
 | none => false
def checkE (l : List Td) : Int := if (List.range l.length).any (badAt l) then 2 else if 10 < l.length then 3 else 0
def freeP (l : List Td) (o : List Nat) (i : Nat) : Bool := match l[i]? with
 | some x => !o.contains i && (List.range l.length).all (fun k => match l[k]? with | some y => !decide (aheadP y x) || o.contains k | none => true)
 | none => false
def mayP (l : List Td) (m : Mod) (i : Nat) : Bool := match l[i]? with | some x => (Md.next m x.op x.out).2 | none => false
def nextP (l : List Td) (m : Mod) (i : Nat) : Mod := match l[i]? with | some x => after m x.op x.out | none => m
def srch (l : List Td) : Nat → Mod → List Nat → Option (List Nat)
 | 0, _, _ => none
 | f + 1, m, o => if o.length = l.length then some o else (List.range l.length).findSome? fun i => if freeP l o i && mayP l m i then srch l f (nextP l m i) (o ++ [i]) else none
@[reducible] def tdC (x : Td) (vx vb : Value) : List Value := [.int .i64 x.thread, .int .i64 x.op.kind, .int .u32 x.op.ad, .int .u64 x.op.size, .int .u64 x.op.mult, .int .u64 x.op.many, vx, .int .i64 x.out.errno, .int .u32 x.out.ad, .int .i64 x.out.n, vb, .int .i64 x.from_, .int .i64 x.to_]
structure TdR (x : Td) : Prop where
 thread : inR .i64 x.thread
 op : OpR0 x.op
 out : OutR0 x.out
 from_ : inR .i64 x.from_
 to_ : inR .i64 x.to_
def TdAt (L : Chunk) (c : List Value) (x : Td) : Prop := ∃ vx vb, c = tdC x vx vb ∧ BS L vx x.op.bytes ∧ BS L vb x.out.bytes ∧ TdR x
theorem TdAt.to {L L' : Chunk} [hm : MemC L L'] (c : List Value) (x : Td) (h : TdAt L c x) : TdAt L' c x := let ⟨a, b, e, h1, h2, h3⟩ := h; ⟨a, b, e, h1.to, h2.to, h3⟩
end Go.Pw.Or

namespace Go.Pw
theorem Rd.sng {L : Chunk} {s n : Nat} {v : Value} {xs : List Value} (h : Rd L s v n xs) : Sng v := by obtain ⟨a, c, rfl, _⟩ := h.isSlice; infer_instance
theorem VP.front {P : Program} {fv : Value} {args : List Value} {L : Chunk} {Φ : Value → Chunk → Prop} (h : VP P fv args L (fun v L' => ∃ X L2, L' = X ++ L2 ∧ Φ v L2) noPanic) : VP P fv args L Φ noPanic := fun w0 w hs => by
 have key : ∀ e w', endR w0 (fun v L' => ∃ X L2, L' = X ++ L2 ∧ Φ v L2) noPanic e w' → endR w0 Φ noPanic e w' := fun e w' he => by
  cases e with
  | returned v =>
   obtain ⟨L', a, X, L2, rfl, b⟩ := he
   exact ⟨L2, a.drop (List.sublist_append_right ..), b⟩
  | panicked c => exact he
  | outgrown => exact he
 rcases h w0 w hs with ⟨f, first, cap, a, b, c⟩ | ⟨l, fn, tmps, asn, bo, a, b, c⟩
 ·exact .inl ⟨f, first, cap, a, b, c.mono key⟩
 ·exact .inr ⟨l, fn, tmps, asn, bo, a, b, RoundIn.mono c key⟩
section
variable {P : Program} {w0 : World} {rd : Option Nat} {n : Nat} {K : Post} {ρ : Env} {ds : List Deferred} {L R : Chunk} {l : List Oper} {ops : Array Oper} {ty : TypeId} {d : Nat} {pos : String} {after : Array Edge}
theorem yl_entry {x : Operand} {r m since c : Nat} {seen : Array Nat} {es : List MapEntry} {e : MapEntry} {q : IntKind} (hx : EvO ρ x (.pointer (some ⟨r, 0, none⟩))) (hin : InC L r (.mapIter (some m) since (seen.push e.born) c)) (hm : InC L m (.map es.toArray c)) (hk : KV q es c) (he : e ∈ es) :
  Yl P ρ L (.entry x) ty (.tuple #[e.key, e.val]) :=
 yl_of_run (fun c h => (by cases h)) fun w o ho _ hp => by
  have h1 := run_entry_at (P := P) w r m since seen es.toArray c e (hp _ _ hin.out) (hp _ _ hm.out) (by simpa using he) (by simpa using hk.births)
  unfold execOp
  simp only [ho, hx.out, Sem.run_bind, h1, Result.andThen_ok, Sem.run_pure]
theorem OW.entryE {x : Operand} {r m since c : Nat} {seen : Array Nat} {es : List MapEntry} {e : MapEntry} {q : IntKind} [hx : EvO ρ x (.pointer (some ⟨r, 0, none⟩))] [hin : InC L r (.mapIter (some m) since (seen.push e.born) c)] [hm : InC L m (.map es.toArray c)] (hk : KV q es c) (he : e ∈ es)
  (next : OW P w0 rd n ops K l (upd ρ d (.tuple #[e.key, e.val])) ds L) : OW P w0 rd n ops K (⟨some d, .entry x, ty, pos, after, none⟩ :: l) ρ ds L := OW.y (yl_entry hx hin hm hk he) next
theorem run_eqMapNil {w : World} (d : Nat) {t k e : TypeId} {p : Option Nat} (h : P.underlying t = some (.map k e)) : (Op.equalIn (d + 1) t (.map p) (.map none)).run P w = .ok p.isNone w := by
 cases p <;> simp [Op.equalIn, run_underlying h]
instance op1EqlNilMap {t yt k e : TypeId} {x y : Operand} {a : Option Nat} [ht : Und P t (.map k e)] [hx : EvO ρ x (.map a)] [hy : EvO ρ y (.map none)] : Op1 P ρ L (.binOp .eql t x y yt) ty (.bool a.isNone) :=
 ⟨yl_of_run (fun c h => (by cases h)) fun w o ho _ _ => by
  have h1 : (Op.equal t (.map a) (.map none)).run P w = .ok a.isNone w := run_eqMapNil 9999 ht.out
  unfold execOp
  simp [ho, hx.out, hy.out, eqGuard, binOp, h1]⟩
instance (priority := high) op1EqlSomePtr {t yt e : TypeId} {x y : Operand} {a : Addr} [ht : Und P t (.pointer e)] [hx : EvO ρ x (.pointer (some a))] [hy : EvO ρ y (.pointer none)] : Op1 P ρ L (.binOp .eql t x y yt) ty (.bool false) :=
 ⟨(op1EqlNilPtr (P := P) (ρ := ρ) (L := L) (ty := ty) (t := t) (yt := yt) (x := x) (y := y) (a := some a)).yl⟩
instance (priority := high) op1EqlSomeMap {t yt k e : TypeId} {x y : Operand} {a : Nat} [ht : Und P t (.map k e)] [hx : EvO ρ x (.map (some a))] [hy : EvO ρ y (.map none)] : Op1 P ρ L (.binOp .eql t x y yt) ty (.bool false) :=
 ⟨(op1EqlNilMap (P := P) (ρ := ρ) (L := L) (ty := ty) (t := t) (yt := yt) (x := x) (y := y) (a := some a)).yl⟩
instance {k e : TypeId} : NotIface (.map k e) := ⟨by simp⟩
theorem run_copyMap {w : World} {r c : Nat} {es : Array MapEntry} (t : TypeId) (hb : w.heap[r]? = some (.map es c)) :
  (Extern.MapsClone.clone #[.iface t (.map (some r))]).run P w = .ok (.iface t (.map (some w.heap.size))) (w.alloc (.map es c)) := by
 have hg : (getObj r).run P w = .ok (.map es c) w := by simp [getObj, Sem.run, hb]
 have e : Extern.MapsClone.clone #[.iface t (.map (some r))] = (getObj r >>= fun o => match o with
   | .map entries clock => (newObj (.map entries clock) >>= fun n => pure (.iface t (.map (some n))))
   | _ => stuck "maps.clone: a map expected") := rfl
 rw [e, Sem.run_bind, hg]
 simp [Result.andThen, newObj, Sem.run]
theorem ef_mapClone {f : FuncId} {fn : Func} {x y : Operand} {argTypes : Array TypeId} {t : TypeId} {m c : Nat} {es : List MapEntry} (hf : P.funcs[f]? = some fn) (h1 : (fn.name == "runtime.NumGoroutine") = false) (h2 : fn.body.isNone = true) (h3 : Extern.findNext fn = none) (h4 : Extern.find fn = some Extern.MapsClone.clone)
  (hx : ev ρ x = .func (.func f) #[] #[]) (hy : EvO ρ y (.iface t (.map (some m)))) (hin : InC L m (.map es.toArray c)) :
  Ef P ρ L (.call { callee := .value x, args := #[y], argTypes }) ty (fun v L' => ∃ b, v = .iface t (.map (some b)) ∧ L' = (b, .map es.toArray c) :: L) noPanic := by
 refine ⟨fun c h => (by cases h), fun w0 w rd a next Q o ho hty ha hst hn _ => ?_⟩
 have hr : (execOp (ev ρ) o).run P w = .ok (.value (.iface t (.map (some w.heap.size)))) (w.alloc (.map es.toArray c)) := by
  unfold execOp
  simp only [ho, resolve, hx, Deferred.ofValue, Sem.run_bind, Sem.run_pure, Result.andThen_ok, invoke, List.map_toArray, List.map_cons, List.map_nil, hy.out, Array.empty_append, Array.append_empty]
  rw [run_callFunc_extern hf h1 h2 h3 h4, run_copyMap t (hst.pn _ _ hin.out)]
  simp [Result.andThen]
 rw [hr]
 exact hn _ _ _ (hst.alloc _) ⟨_, rfl, rfl⟩
theorem OW.mapClone {f : FuncId} {fn : Func} {x y : Operand} {argTypes : Array TypeId} {t : TypeId} {m c : Nat} {es : List MapEntry} (hf : P.funcs[f]? = some fn) (h1 : (fn.name == "runtime.NumGoroutine") = false) (h2 : fn.body.isNone = true) (h3 : Extern.findNext fn = none) (h4 : Extern.find fn = some Extern.MapsClone.clone)
  [hx : EvO ρ x (.func (.func f) #[] #[])] [hy : EvO ρ y (.iface t (.map (some m)))] [hin : InC L m (.map es.toArray c)]
  (next : ∀ b, OW P w0 rd n ops K l (upd ρ d (.iface t (.map (some b)))) ds ((b, .map es.toArray c) :: L)) : OW P w0 rd n ops K (⟨some d, .call { callee := .value x, args := #[y], argTypes }, ty, pos, after, none⟩ :: l) ρ ds L :=
 OW.eff (ef_mapClone hf h1 h2 h3 h4 hx.out hy hin) (fun v L' ⟨b, e1, e2⟩ => by subst e1 e2; exact next b) (fun _ _ h => h.elim)
theorem OW.lookOk {t kt et : TypeId} {x y : Operand} {k k' : IntKind} {j : Int} {m c : Nat} {es : List MapEntry} {z : Value} [ht : Und P t (.map kt et)] [hk : Und P kt (.int k')] [hz : Zer P et z] [hx : EvO ρ x (.map (some m))] [hy : EvO ρ y (.int k j)] [hin : InC L m (.map es.toArray c)] (hes : keysI k es)
  (hs : ∀ v, findI es j = some v → OW P w0 rd n ops K l (upd ρ d (.tuple #[v, .bool true])) ds L) (hn : findI es j = none → OW P w0 rd n ops K l (upd ρ d (.tuple #[z, .bool false])) ds L) :
  OW P w0 rd n ops K (⟨some d, .lookup t x y true, ty, pos, after, none⟩ :: l) ρ ds L := by
 have h := yl_lookupOk (P := P) (ty := ty) ht hk hz hx hy hin hes
 cases hf : findI es j with
 | none => rw [hf] at h; exact OW.y h (hn hf)
 | some v => rw [hf] at h; exact OW.y h (hs v hf)
theorem OW.mapNew {t kt et : TypeId} {x y z : Operand} {k k' : IntKind} {j : Int} {m c : Nat} {es : List MapEntry} {L' : Chunk} {u : Value} [ht : Und P t (.map kt et)] [hk : Und P kt (.int k')] [hx : EvO ρ x (.map (some m))] [hy : EvO ρ y (.int k j)] [hz : EvO ρ z u] [hin : InC L m (.map es.toArray c)] (hes : KV k es c) (hno : findI es j = none)
  [hu : UpdC L m (.map (es ++ [MapEntry.mk (.int k j) u c]).toArray (c + 1)) L'] (next : OW P w0 rd n ops K l ρ ds L') : OW P w0 rd n ops K (⟨none, .mapUpdate t x y z, ty, pos, after, none⟩ :: l) ρ ds L := by
 have e : putE k j u es c = (es ++ [MapEntry.mk (.int k j) u c], c + 1) := by unfold putE; rw [hno]; rfl
 have hu' : UpdC L m (.map (putE k j u es c).1.toArray (putE k j u es c).2) L' := by rw [e]; exact hu
 exact OW.mapPut hes next
theorem OW.mapOld {t kt et : TypeId} {x y z : Operand} {k k' : IntKind} {j : Int} {m c : Nat} {es : List MapEntry} {L' : Chunk} {u v0 : Value} [ht : Und P t (.map kt et)] [hk : Und P kt (.int k')] [hx : EvO ρ x (.map (some m))] [hy : EvO ρ y (.int k j)] [hz : EvO ρ z u] [hin : InC L m (.map es.toArray c)] (hes : KV k es c) (hso : findI es j = some v0)
  [hu : UpdC L m (.map (setE k j u es).toArray c) L'] (next : OW P w0 rd n ops K l ρ ds L') : OW P w0 rd n ops K (⟨none, .mapUpdate t x y z, ty, pos, after, none⟩ :: l) ρ ds L := by
 have e : putE k j u es c = (setE k j u es, c) := by unfold putE; rw [hso]; rfl
 have hu' : UpdC L m (.map (putE k j u es c).1.toArray (putE k j u es c).2) L' := by rw [e]; exact hu
 exact OW.mapPut hes next
end
end Go.Pw

namespace Go.Pw
section
variable {P : Program} {w0 : World} {rd : Option Nat} {n : Nat} {K : Post} {ρ : Env} {ds : List Deferred} {L R : Chunk} {l : List Oper} {ops : Array Oper} {ty : TypeId} {d : Nat} {pos : String} {after : Array Edge}
theorem run_firstCells_part {w : World} {n m : Nat} {u : Value} {xs : List Value} (h : Rd L 1 u m xs) (hn : n ≤ m) (hp : Pn w L) : (Builtin.firstCells 1 n u).run P w = .ok (xs.take n).toArray w := by
 rcases h.2 with ⟨⟨a, cap, rfl⟩, rfl⟩ | ⟨b, k, cap, c, e, fr, rfl, h1, h2, h3, _⟩
 ·obtain rfl : n = 0 := by omega
  cases a with
  | none => simp [Builtin.firstCells]
  | some a => simp only [Builtin.firstCells, Nat.zero_mul, run_loadCells0]; simp
 ·simp only [Builtin.firstCells]
  rw [run_loadCells_rd (hp _ _ h1) (by omega)]
  have : ((c.toList.drop k).take (n * 1)) = xs.take n := by
   rw [← h3, List.take_take]
   congr 1
   omega
  rw [this]
theorem ef_copy {t t2 e : TypeId} {x y : Operand} {b k nd cd m : Nat} {l0 : List Value} {u : Value} {xs : List Value} {L' : Chunk} (ht : Und P t (.slice e)) (hz : Siz P e 1) (hx : EvO ρ x (.slice (some ⟨b, k, none⟩) nd cd)) (hy : EvO ρ y u) (hrd : Rd L 1 u m xs)
  (hb : InC L b (.cells l0.toArray e (0, 0))) (hsng : ∀ v ∈ xs, Sng v) (hle : k + nd ≤ l0.length) (hu : UpdC L b (.cells (l0.take k ++ xs.take (min m nd) ++ l0.drop (k + min m nd)).toArray e (0, 0)) L') :
  Ef P ρ L (.call { callee := .builtin .copy, args := #[x, y], argTypes := #[t, t2] }) ty (fun v L'' => v = .int .i64 (min m nd : Nat) ∧ L'' = L') noPanic := by
 refine ⟨fun c h => (by cases h), fun w0 w rd a next Q o ho hty ha hst hn _ => ?_⟩
 have hlen := lenOf_rd (P := P) (w := w) hrd
 have hcells := run_firstCells_part (P := P) hrd (Nat.min_le_left m nd) hst.pn
 have hxl := hrd.1
 have htl : (xs.take (min m nd)).length = min m nd := by rw [List.length_take]; omega
 have hu' : UpdC L b (.cells (l0.toArray.toList.take (k + 0) ++ xs.take (min m nd) ++ l0.toArray.toList.drop (k + 0 + (xs.take (min m nd)).length)).toArray e (0, 0)) L' := by
  simp only [Nat.add_zero, htl]; exact hu
 obtain ⟨w', hr, hs⟩ := run_storeCells_st (P := P) (k := k) (xs.take (min m nd)) 0 w l0.toArray L L' (fun v hv => hsng v (List.mem_of_mem_take hv)) hst hb (by rw [htl]; simp; omega) hu'
 have hrun : (execOp (ev ρ) o).run P w = .ok (.value (.int .i64 (min m nd : Nat))) w' := by
  unfold execOp
  have hnm : Nat.min m nd = min m nd := rfl
  simp only [ho, resolve, invoke, builtin, Sem.run_bind, Sem.run_pure, Result.andThen_ok, List.map_toArray, List.map_cons, List.map_nil, hx.out, hy.out]
  simp [Builtin.copy_, run_underlying ht.out, hlen, hz.out, hnm, hcells, hr, goInt]
 rw [hrun]
 exact hn _ _ L' hs ⟨rfl, rfl⟩
theorem OW.copy {t t2 e : TypeId} {x y : Operand} {b k nd cd m : Nat} {l0 : List Value} {u : Value} {xs : List Value} {L' : Chunk} [ht : Und P t (.slice e)] [hz : Siz P e 1] [hx : EvO ρ x (.slice (some ⟨b, k, none⟩) nd cd)] [hy : EvO ρ y u] (hrd : Rd L 1 u m xs)
  [hb : InC L b (.cells l0.toArray e (0, 0))] (hsng : ∀ v ∈ xs, Sng v) (hle : k + nd ≤ l0.length) [hu : UpdC L b (.cells (l0.take k ++ xs.take (min m nd) ++ l0.drop (k + min m nd)).toArray e (0, 0)) L']
  (next : OW P w0 rd n ops K l (upd ρ d (.int .i64 (min m nd : Nat))) ds L') : OW P w0 rd n ops K (⟨some d, .call { callee := .builtin .copy, args := #[x, y], argTypes := #[t, t2] }, ty, pos, after, none⟩ :: l) ρ ds L :=
 OW.eff (ef_copy ht hz hx hy hrd hb hsng hle hu) (fun v L'' ⟨h1, h2⟩ => by subst h1 h2; exact next) (fun _ _ h => h.elim)
theorem RW.copy {t t2 e : TypeId} {x y : Operand} {b k nd cd m : Nat} {l0 : List Value} {u : Value} {xs : List Value} {L' : Chunk} {g : Option (Nat × Bool)} [hg : GdT ops ρ g] [ht : Und P t (.slice e)] [hz : Siz P e 1] [hx : EvO ρ x (.slice (some ⟨b, k, none⟩) nd cd)] [hy : EvO ρ y u] (hrd : Rd L 1 u m xs)
  [hb : InC L b (.cells l0.toArray e (0, 0))] (hsng : ∀ v ∈ xs, Sng v) (hle : k + nd ≤ l0.length) [hu : UpdC L b (.cells (l0.take k ++ xs.take (min m nd) ++ l0.drop (k + min m nd)).toArray e (0, 0)) L']
  (next : ∃ R', (∀ p ∈ R, p ∈ R') ∧ (∀ p ∈ R', p ∈ L') ∧ RW P w0 rd n ops K l R' (upd ρ d (.int .i64 (min m nd : Nat))) ds L') : RW P w0 rd n ops K (⟨some d, .call { callee := .builtin .copy, args := #[x, y], argTypes := #[t, t2] }, ty, pos, after, g⟩ :: l) R ρ ds L :=
 RW.eff hg.out (by rfl) (ef_copy ht hz hx hy hrd hb hsng hle hu) (fun v L'' ⟨h1, h2⟩ => by subst h1 h2; exact next) (fun _ _ h => h.elim)
end
end Go.Pw

namespace Go.Pw
section
variable {α : Type} {f : α → List Value} {s : Nat}
end
section
variable {P : Program} {w0 : World} {rd : Option Nat} {n : Nat} {K : Post} {ρ : Env} {ds : List Deferred} {L R : Chunk} {l : List Oper} {ops : Array Oper} {ty : TypeId} {pos : String} {after : Array Edge}
theorem sng_zeroCells {zs : List Value} (h : SngL zs) (m : Nat) : ∀ v ∈ (Builtin.zeroCells zs.toArray m).toList, Sng v := by
 intro v hv
 simp only [Builtin.zeroCells, Array.toList_map, List.mem_map, Array.toList_range, List.mem_range] at hv
 obtain ⟨i, hi, rfl⟩ := hv
 have hz : zs.toArray.size ≠ 0 := by intro h0; rw [h0] at hi; omega
 have hlt : i % zs.toArray.size < zs.toArray.size := Nat.mod_lt _ (Nat.pos_of_ne_zero hz)
 rw [getElem!_pos zs.toArray _ hlt]
 exact h.out _ (by simp)
theorem ef_clear {t e et : TypeId} {x : Operand} {b k m c : Nat} {lc lc' zs : List Value} {z : Value} {L' : Chunk} (ht : Und P t (.slice e)) (hz : Zer P e z) (hzc : CellsL z zs) (hsng : SngL zs)
  (hx : EvO ρ x (.slice (some ⟨b, k, none⟩) m c)) (hm : m ≠ 0) (hb : InC L b (.cells lc.toArray et (0, 0))) (hp : PutL lc k (Builtin.zeroCells zs.toArray m).toList lc') (hu : UpdC L b (.cells lc'.toArray et (0, 0)) L') :
  Ef P ρ L (.call { callee := .builtin .clear, args := #[x], argTypes := #[t] }) ty (fun v L'' => v = .tuple #[] ∧ L'' = L') noPanic := by
 refine ⟨fun c h => (by cases h), fun w0 w rd a next Q o ho hty ha hst hn _ => ?_⟩
 have h1 := hp.out.1
 have h2 := hp.out.2
 obtain ⟨w', hr, hs⟩ := run_storeCells_st (P := P) (k := k) _ 0 w lc.toArray L L' (sng_zeroCells hsng m) hst hb (by simpa using h1) (by rw [show lc.toArray.toList = lc from rfl, Nat.add_zero, h2]; exact hu)
 have hrun : (execOp (ev ρ) o).run P w = .ok (.value (.tuple #[])) w' := by
  unfold execOp
  obtain ⟨q, rfl⟩ : ∃ q, m = q + 1 := ⟨m - 1, by omega⟩
  simp only [ho, resolve, invoke, builtin, Sem.run_bind, Sem.run_pure, Result.andThen_ok, List.map_toArray, List.map_cons, List.map_nil, hx.out]
  simp [Builtin.clear_, run_underlying ht.out, hz.out, hzc.out, hr]
 rw [hrun]
 exact hn _ _ L' hs ⟨rfl, rfl⟩
theorem OW.clear {t e et : TypeId} {x : Operand} {b k m c : Nat} {lc lc' zs : List Value} {z : Value} {L' : Chunk} [ht : Und P t (.slice e)] [hz : Zer P e z] [hzc : CellsL z zs] [hsng : SngL zs]
  [hx : EvO ρ x (.slice (some ⟨b, k, none⟩) m c)] (hm : m ≠ 0) [hb : InC L b (.cells lc.toArray et (0, 0))] (hp : PutL lc k (Builtin.zeroCells zs.toArray m).toList lc') [hu : UpdC L b (.cells lc'.toArray et (0, 0)) L']
  (next : OW P w0 rd n ops K l ρ ds L') : OW P w0 rd n ops K (⟨none, .call { callee := .builtin .clear, args := #[x], argTypes := #[t] }, ty, pos, after, none⟩ :: l) ρ ds L :=
 OW.eff (ef_clear ht hz hzc hsng hx hm hb hp hu) (fun v L'' ⟨h1, h2⟩ => by subst h1 h2; exact next) (fun _ _ h => h.elim)
end
end Go.Pw

namespace Go.Pw
section
variable {P : Program} {w0 : World} {rd : Option Nat} {n : Nat} {K : Post} {ρ : Env} {ds : List Deferred} {L R : Chunk} {l : List Oper} {ops : Array Oper} {ty : TypeId} {d : Nat} {pos : String} {after : Array Edge}
theorem yl_sl3 {t e : TypeId} {x hi mx : Operand} {m h' s c : Nat} {kk k2 : IntKind} {j : Int} {b k : Nat} (ht : Und P t (.slice e)) (hz : Siz P e s) (hx : EvO ρ x (.slice (some ⟨b, k, none⟩) m c)) (hh : EvO ρ hi (.int kk j)) (hm : EvO ρ mx (.int k2 j)) (hj : ToN j h') (h0 : 0 ≤ j ∧ j ≤ c) :
  Yl P ρ L (.slice t x none (some hi) (some mx)) ty (.slice (some ⟨b, k, none⟩) h' h') :=
 yl_of_run (fun c h => (by cases h)) fun w o ho _ _ => by
  have hj' := hj.out
  have h1 : ¬ j < 0 := by omega
  have h2 : ¬ (c : Int) < j := by omega
  have h3 : j.toNat ≤ c := by omega
  unfold execOp
  simp [ho, hx.out, hh.out, hm.out, Instr.sliceAt, Instr.slice, Instr.sliceBounds, Instr.sliceBound, asIntOf, run_underlying ht.out, h0.1, h1, h2, h3, hz.out, hj', Addr.add]
  rw [if_pos h0.2, if_pos (by omega)]
theorem OW.sl3 {t e : TypeId} {x hi mx : Operand} {m h' s c : Nat} {kk k2 : IntKind} {j : Int} {b k : Nat} [ht : Und P t (.slice e)] [hz : Siz P e s] [hx : EvO ρ x (.slice (some ⟨b, k, none⟩) m c)] [hh : EvO ρ hi (.int kk j)] [hm : EvO ρ mx (.int k2 j)] [hj : ToN j h'] (h0 : 0 ≤ j ∧ j ≤ c)
  (next : OW P w0 rd n ops K l (upd ρ d (.slice (some ⟨b, k, none⟩) h' h')) ds L) : OW P w0 rd n ops K (⟨some d, .slice t x none (some hi) (some mx), ty, pos, after, none⟩ :: l) ρ ds L := OW.val (yl_sl3 ht hz hx hh hm hj h0) next
theorem RW.sl3 {t e : TypeId} {x hi mx : Operand} {m h' s c : Nat} {kk k2 : IntKind} {j : Int} {b k : Nat} {g : Option (Nat × Bool)} [hg : GdT ops ρ g] [ht : Und P t (.slice e)] [hz : Siz P e s] [hx : EvO ρ x (.slice (some ⟨b, k, none⟩) m c)] [hh : EvO ρ hi (.int kk j)] [hm : EvO ρ mx (.int k2 j)] [hj : ToN j h'] (h0 : 0 ≤ j ∧ j ≤ c)
  (next : RW P w0 rd n ops K l R (upd ρ d (.slice (some ⟨b, k, none⟩) h' h')) ds L) : RW P w0 rd n ops K (⟨some d, .slice t x none (some hi) (some mx), ty, pos, after, g⟩ :: l) R ρ ds L := RW.p' hg.out rfl (yl_sl3 ht hz hx hh hm hj h0) next
theorem ef_entryNew {t kt et : TypeId} {x y : Operand} {k k' : IntKind} {j : Int} {m c : Nat} {es : List MapEntry} {z : Value} {L' : Chunk} (ht : Und P t (.map kt et)) (hk : Und P kt (.int k')) (hz : Zer P et z) (hx : EvO ρ x (.map (some m))) (hy : EvO ρ y (.int k j)) (hin : InC L m (.map es.toArray c)) (hes : KV k es c) (hno : findI es j = none)
  (hu : UpdC L m (.map (es ++ [MapEntry.mk (.int k j) z c]).toArray (c + 1)) L') : Ef P ρ L (.mapEntry t x y) ty (fun v L'' => v = .tuple #[z, .int .i64 (c : Int)] ∧ L'' = L') noPanic := by
 refine ⟨fun c h => (by cases h), fun w0 w rd a next Q o ho hty ha hst hn _ => ?_⟩
 have hob := run_getMap (P := P) hst.pn hin
 have hck : ∀ b, (Instr.checkKey b 10000 kt (.int k j)).run P w = .ok () w := fun b => run_checkInt 9999 b hk.out
 have h1 := findNow_idx (k := k) (k' := k') (j := j) es 0 hes.keys
 have hi : idxI j es = none := by
  rw [findI_idx hes.keys] at hno
  cases h : idxI j es with
  | none => rfl
  | some p => rw [h] at hno; cases hno
 rw [hi] at h1
 have hr : (execOp (ev ρ) o).run P w = .ok (.value (.tuple #[z, .int .i64 (c : Int)])) (w.putObj m (.map (es ++ [MapEntry.mk (.int k j) z c]).toArray (c + 1))) := by
  unfold execOp
  simp only [ho, hx.out, hy.out]
  simp [Instr.mapEntry, run_underlying ht.out, hob, hck, Instr.findKey, run_underlying hk.out, h1, hz.out, setObj, Sem.run, World.putObj, hst.pn _ _ hin.out, goInt]
 rw [hr]
 exact hn _ _ L' (hst.put hin hu) ⟨rfl, rfl⟩
theorem RW.entryNew {t kt et : TypeId} {x y : Operand} {k k' : IntKind} {j : Int} {m c : Nat} {es : List MapEntry} {z : Value} {L' : Chunk} {g : Option (Nat × Bool)} [hg : GdT ops ρ g] [ht : Und P t (.map kt et)] [hk : Und P kt (.int k')] [hz : Zer P et z] [hx : EvO ρ x (.map (some m))] [hy : EvO ρ y (.int k j)] [hin : InC L m (.map es.toArray c)] (hes : KV k es c) (hno : findI es j = none)
  [hu : UpdC L m (.map (es ++ [MapEntry.mk (.int k j) z c]).toArray (c + 1)) L'] (next : ∃ R', (∀ p ∈ R, p ∈ R') ∧ (∀ p ∈ R', p ∈ L') ∧ RW P w0 rd n ops K l R' (upd ρ d (.tuple #[z, .int .i64 (c : Int)])) ds L') :
  RW P w0 rd n ops K (⟨some d, .mapEntry t x y, ty, pos, after, g⟩ :: l) R ρ ds L :=
 RW.eff hg.out (by rfl) (ef_entryNew ht hk hz hx hy hin hes hno hu) (fun v L'' ⟨h1, h2⟩ => by subst h1 h2; exact next) (fun _ _ h => h.elim)
theorem OW.entryNew {t kt et : TypeId} {x y : Operand} {k k' : IntKind} {j : Int} {m c : Nat} {es : List MapEntry} {z : Value} {L' : Chunk} [ht : Und P t (.map kt et)] [hk : Und P kt (.int k')] [hz : Zer P et z] [hx : EvO ρ x (.map (some m))] [hy : EvO ρ y (.int k j)] [hin : InC L m (.map es.toArray c)] (hes : KV k es c) (hno : findI es j = none)
  [hu : UpdC L m (.map (es ++ [MapEntry.mk (.int k j) z c]).toArray (c + 1)) L'] (next : OW P w0 rd n ops K l (upd ρ d (.tuple #[z, .int .i64 (c : Int)])) ds L') :
  OW P w0 rd n ops K (⟨some d, .mapEntry t x y, ty, pos, after, none⟩ :: l) ρ ds L :=
 OW.eff (ef_entryNew ht hk hz hx hy hin hes hno hu) (fun v L'' ⟨h1, h2⟩ => by subst h1 h2; exact next) (fun _ _ h => h.elim)
theorem findIdx_last {es : List MapEntry} {e : MapEntry} {c : Nat} (h : ∀ x ∈ es, x.born < c) (he : e.born = c) : (es ++ [e]).findIdx? (fun x => (x.born : Int) == (c : Int)) = some es.length := by
 induction es with
 | nil => simp [List.findIdx?_cons, he]
 | cons x es ih =>
  have h1 := h x (List.mem_cons_self ..)
  rw [List.cons_append, List.findIdx?_cons, ih fun y hy => h y (List.mem_cons_of_mem _ hy)]
  have : ((x.born : Int) == (c : Int)) = false := by simp; omega
  simp [this]
theorem modify_last {α : Type} (f : α → α) (e : α) : ∀ es : List α, (es ++ [e]).modify es.length f = es ++ [f e]
 | [] => rfl
 | x :: es => by
  show (x :: (es ++ [e])).modify (es.length + 1) f = _
  rw [List.modify_succ_cons, modify_last f e es]; rfl
theorem opuEntry {t : TypeId} {x y z : Operand} {m c c' : Nat} {es : List MapEntry} {key w v : Value} {L' : Chunk} (hx : EvO ρ x (.map (some m))) (hy : EvO ρ y (.int .i64 (c : Int))) (hz : EvO ρ z v) (hin : InC L m (.map (es ++ [MapEntry.mk key w c]).toArray c')) (ho : ∀ e ∈ es, e.born < c)
  (hu : UpdC L m (.map (es ++ [MapEntry.mk key v c]).toArray c') L') : OpU P ρ L (.entryStore t x y z) ty L' :=
 ⟨fun c h => (by cases h), fun w0 w' o hoo hty hst => by
  have hob := run_getMap (P := P) hst.pn hin
  have hfi : (es ++ [MapEntry.mk key w c]).toArray.findIdx? (fun e => (e.born : Int) == (c : Int)) = some es.length := by
   rw [List.findIdx?_toArray]; exact findIdx_last ho rfl
  have hmod : (es ++ [MapEntry.mk key w c]).toArray.modify es.length (fun e => { e with val := v }) = (es ++ [MapEntry.mk key v c]).toArray := by
   apply Array.ext'
   rw [Array.toList_modify]
   exact modify_last _ _ es
  refine ⟨w'.putObj m (.map (es ++ [MapEntry.mk key v c]).toArray c'), ?_, hst.put hin hu⟩
  unfold execOp
  simp only [hoo, hx.out, hy.out, hz.out]
  simp [Instr.entryStore, hob, asInt, asIntOf, hfi, hmod, setObj, Sem.run, World.putObj, hst.pn _ _ hin.out]⟩
end
end Go.Pw

namespace Go.Pw
theorem nth_cut {l c : List Value} {k n : Nat} {v : Value} (j : Nat) (h : CutL l k n c) (hv : c[j]? = some v) : NthL l (k + j) v := ⟨by
 have h2 := h.out.2
 rw [← h2, List.getElem?_take] at hv
 split at hv
 ·rwa [List.getElem?_drop] at hv
 ·cases hv⟩
def RowG (e : TypeId) (s : Nat) (N : Chunk) (v : Value) (n : Nat) (xs : List Value) : Prop :=
 xs.length = n * s ∧ ((v = .slice none 0 0 ∧ n = 0 ∧ N = []) ∨
  ∃ b cap rest, v = .slice (some ⟨b, 0, none⟩) n cap ∧ N = [(b, .cells (xs ++ rest).toArray e (0, 0))] ∧ n ≤ cap ∧ cap * s ≤ (xs ++ rest).length)
theorem RowG.rd {e : TypeId} {s n : Nat} {N : Chunk} {v : Value} {xs : List Value} (h : RowG e s N v n xs) : Rd N s v n xs := by
 refine ⟨h.1, ?_⟩
 rcases h.2 with ⟨h1, h2, h3⟩ | ⟨b, cap, rest, h1, h2, h3, h4⟩
 ·exact .inl ⟨⟨_, _, h1⟩, h2⟩
 ·refine .inr ⟨b, 0, cap, _, e, (0, 0), h1, by rw [h2]; exact List.mem_cons_self .., ?_, ?_, h3⟩
  ·have := h.1; simp; omega
  ·simp [← h.1]
theorem RowG.nil (e : TypeId) (s : Nat) : RowG e s [] (.slice none 0 0) 0 [] := ⟨by simp, .inl ⟨rfl, rfl, rfl⟩⟩
theorem RowG.of {e : TypeId} {s n : Nat} {N : Chunk} {v : Value} {xs : List Value} (h : Row e s N v n xs) : RowG e s N v n xs :=
 ⟨h.1, h.2.imp id fun ⟨b, cap, rest, h1, h2, h3, h4⟩ => ⟨b, cap, rest, h1, h2, h3, by omega⟩⟩
section
variable {P : Program} {ρ : Env} {L : Chunk} {ty : TypeId}
theorem ef_appendG {t t2 e : TypeId} {s bytes n m : Nat} {x y : Operand} {v u : Value} {xs news : List Value} {N : Chunk} {C : Chunk → Chunk} {z : Value} {zs : List Value}
  (ht : Und P t (.slice e)) (ht2 : Und P t2 (.slice e)) (hz : Siz P e s) (hzv : Zer P e z) (hzc : CellsL z zs) (hzl : zs.length = s) (hby : Byt P e bytes) (hbp : 0 < bytes)
  (hx : EvO ρ x v) (hy : EvO ρ y u) (hrow : RowG e s N v n xs) (hat : At L N C) (hrd : Rd L s u m news) (hsng : ∀ v ∈ news, Sng v) (hfit : (n + m) * bytes ≤ 140737488355328) :
  Ef P ρ L (.call { callee := .builtin .append, args := #[x, y], argTypes := #[t, t2] }) ty (fun v' L' => ∃ N', L' = C N' ∧ RowG e s N' v' (n + m) (xs ++ news)) noPanic := by
 refine ⟨fun c h => (by cases h), fun w0 w rd a next Q o ho hty ha hst hn _ => ?_⟩
 have hnm : n + m ≤ 140737488355328 := Nat.le_trans (Nat.le_mul_of_pos_right _ hbp) hfit
 have hlen : (xs ++ news).length = (n + m) * s := by rw [List.length_append, hrow.1, hrd.1, Nat.add_mul]
 obtain ⟨i, hi, hib⟩ := hby.out
 have hti : ∀ w, (typeInfo e).run P w = .ok i w := fun w => by simp [typeInfo, hi]
 obtain ⟨A, B, hL, hC⟩ := hat.out
 have hunfold : ∀ r, (Builtin.append_ #[t, t2] o.type #[v, u]).run P w = r → (execOp (ev ρ) o).run P w = r.andThen fun v w' => .ok (.value v) w' := fun r hr => by
  unfold execOp
  simp only [ho, resolve, invoke, builtin, Sem.run_bind, Sem.run_pure, Result.andThen_ok, List.map_toArray, List.map_cons, List.map_nil, hx.out, hy.out, hr]
 have hlenu := lenOf_rd (P := P) (w := w) hrd
 have hpd : Pn w.drew L := hst.pn
 have hcells := run_firstCells_rd (P := P) hrd hst.pn
 have hcellsD := run_firstCells_rd (P := P) hrd hpd
 have hNL : ∀ p ∈ N, p ∈ L := fun p hp => by rw [hL]; exact List.mem_append_left _ (List.mem_append_right _ hp)
 have holdD := run_firstCells_rd (P := P) (hrow.rd.mono hNL) hpd
 have grown : ∀ (cap : Nat) (base : Option Addr), v = .slice base n cap → cap < n + m →
   ∃ v' w' N', (Builtin.append_ #[t, t2] o.type #[v, u]).run P w = .ok v' w' ∧ St w0 w' (C N') ∧ RowG e s N' v' (n + m) (xs ++ news) := fun cap base hv hcap => by
  subst hv
  have hn1 : ¬ (n + m ≤ cap) := by omega
  have hn2 : ¬ ((9223372036854775807 : Int) < (n : Int) + (m : Int) ∧ i.bytes = 0) := by omega
  have hn3 : ¬ (281474976710656 < Builtin.nextslicecap (n + m) cap * i.bytes) := by
   have := growslice_fits hcap (by rw [hib]; exact hfit : (n + m) * i.bytes ≤ 140737488355328); omega
  have hK : n + m ≤ grownCap w (n + m) cap e := grownCap_ge w _ _ _
  have hrun : (Builtin.append_ #[t, t2] o.type #[.slice base n cap, u]).run P w = .ok (.slice (some ⟨w.heap.size, 0, none⟩) (n + m) (grownCap w (n + m) cap e))
    (w.drew.alloc (.cells (xs.toArray ++ (news.toArray ++ Builtin.zeroCells z.cells (grownCap w (n + m) cap e - (n + m)))) e)) := by
   unfold Builtin.append_
   simp [run_underlying ht.out, run_underlying ht2.out, hz.out, hlenu, hn1, hti, hn2, hn3, choose, Sem.run, Question.forced, askRoom, newRow, newObj]
   simp [holdD, hcellsD, hzv.out, grownCap]
  refine ⟨_, _, [(w.heap.size, _)], hrun, ?_, hlen, .inr ⟨w.heap.size, grownCap w (n + m) cap e, (Builtin.zeroCells z.cells (grownCap w (n + m) cap e - (n + m))).toList, rfl, rfl, hK, ?_⟩⟩
  ·rw [hC]
   rw [hL] at hst
   refine St.swap (w := w) hst rfl rfl (by simp) (fun k x hk => ?_) (fun k hk => .inr (by simp at hk; omega)) (fun k hk _ => ?_)
   ·simp at hk
    obtain ⟨rfl, rfl⟩ := hk
    show (w.heap.push _)[w.heap.size]? = _
    simp
   ·show (w.heap.push _)[k]? = _
    rw [Array.getElem?_push, if_neg (by omega)]
  ·refine Nat.le_of_eq (Eq.symm ?_)
   rw [List.length_append, hlen, hzc.out, Array.length_toList, length_zeroCells, hzl, ← Nat.add_mul]
   congr 1
   omega
 have fin : ∀ v' w' N', (Builtin.append_ #[t, t2] o.type #[v, u]).run P w = .ok v' w' → St w0 w' (C N') → RowG e s N' v' (n + m) (xs ++ news) → Oper.uponIn (fence rd) 0 P o a next Q ((execOp (ev ρ) o).run P w) := fun v' w' N' h1 h2 h3 => by
  rw [hunfold _ h1]
  exact hn v' w' (C N') h2 ⟨N', rfl, h3⟩
 rcases hrow.2 with ⟨rfl, rfl, rfl⟩ | ⟨b, cap, rest, rfl, hN, hnc, hcl⟩
 ·by_cases hm : m = 0
  ·subst hm
   have hnews : news = [] := List.eq_nil_of_length_eq_zero (by simpa using hrd.1)
   have hxs : xs = [] := List.eq_nil_of_length_eq_zero (by simpa using hrow.1)
   subst hnews hxs
   refine fin (.slice none 0 0) w [] ?_ ?_ (RowG.nil e s)
   ·unfold Builtin.append_
    simp [run_underlying ht.out, run_underlying ht2.out, hz.out, hlenu, hcells]
   ·rw [hC]; rw [hL] at hst; exact hst
  ·obtain ⟨v', w', N', h1, h2, h3⟩ := grown 0 none rfl (by omega)
   exact fin v' w' N' h1 h2 h3
 ·by_cases hroom : n + m ≤ cap
  ·have hb : InC L b (.cells (xs ++ rest).toArray e (0, 0)) := ⟨hNL _ (by rw [hN]; exact List.mem_cons_self ..)⟩
   have hle : n * s + 0 + news.length ≤ (xs ++ rest).toArray.size := by
    rw [List.size_toArray, hrd.1, Nat.add_zero, ← Nat.add_mul]; exact Nat.le_trans (Nat.mul_le_mul_right _ hroom) hcl
   have e1 : (xs ++ rest).toArray.toList.take (n * s + 0) ++ news ++ (xs ++ rest).toArray.toList.drop (n * s + 0 + news.length) = (xs ++ news) ++ rest.drop news.length := by
    simp only [Nat.add_zero, ← hrow.1]
    simp
   have hu : UpdC L b (.cells ((xs ++ rest).toArray.toList.take (n * s + 0) ++ news ++ (xs ++ rest).toArray.toList.drop (n * s + 0 + news.length)).toArray e (0, 0)) (C [(b, .cells ((xs ++ news) ++ rest.drop news.length).toArray e (0, 0))]) :=
    ⟨A, B, .cells (xs ++ rest).toArray e (0, 0), by rw [hL, hN]; simp, by rw [hC, e1]; simp⟩
   obtain ⟨w', hr, hs⟩ := run_storeCells_st (P := P) (k := n * s) news 0 w _ L _ hsng hst hb hle hu
   refine fin (.slice (some ⟨b, 0, none⟩) (n + m) cap) w' _ ?_ hs ⟨hlen, .inr ⟨b, cap, rest.drop news.length, rfl, rfl, hroom, ?_⟩⟩
   ·have hadd : (⟨b, 0, none⟩ : Addr).add (n * s) = ⟨b, n * s, none⟩ := by unfold Addr.add; split <;> simp_all
    unfold Builtin.append_
    simp [run_underlying ht.out, run_underlying ht2.out, hz.out, hlenu, hroom, hcells, hadd, hr]
   ·have h9 := hle
    simp only [List.size_toArray, Nat.add_zero] at h9
    simp only [List.length_append, List.length_drop] at hcl h9 ⊢
    have := hrow.1
    omega
  ·obtain ⟨v', w', N', h1, h2, h3⟩ := grown cap (some ⟨b, 0, none⟩) rfl (by omega)
   exact fin v' w' N' h1 h2 h3
variable {w0 : World} {rd : Option Nat} {nt : Nat} {K : Post} {ds : List Deferred} {R : Chunk} {ops : Array Oper} {l : List Oper} {d : Nat} {pos : String} {after : Array Edge}
theorem OW.appendG {t t2 e : TypeId} {s bytes n m : Nat} {x y : Operand} {v u : Value} {xs news : List Value} {N : Chunk} {C : Chunk → Chunk} {z : Value} {zs : List Value}
  [hx : EvO ρ x v] [hy : EvO ρ y u] [ht : Und P t (.slice e)] [ht2 : Und P t2 (.slice e)] [hz : Siz P e s] [hzv : Zer P e z] [hzc : CellsL z zs] [hzl : LenL zs s] [hby : Byt P e bytes] [hbp : NeNat bytes 0]
  (hrow : RowG e s N v n xs) (hat : At L N C) (hrd : Rd L s u m news) (hsng : ∀ v ∈ news, Sng v) (hfit : (n + m) * bytes ≤ 140737488355328)
  (next : ∀ v' N', RowG e s N' v' (n + m) (xs ++ news) → OW P w0 rd nt ops K l (upd ρ d v') ds (C N')) :
  OW P w0 rd nt ops K (⟨some d, .call { callee := .builtin .append, args := #[x, y], argTypes := #[t, t2] }, ty, pos, after, none⟩ :: l) ρ ds L :=
 OW.eff (ef_appendG ht ht2 hz hzv hzc hzl.out hby (Nat.pos_of_ne_zero hbp.ne) hx hy hrow hat hrd hsng hfit) (fun v' L' ⟨N', h1, h2⟩ => by subst h1; exact next v' N' h2) (fun _ _ h => h.elim)
theorem RW.appendG {t t2 e : TypeId} {s bytes n m : Nat} {x y : Operand} {v u : Value} {xs news : List Value} {N : Chunk} {C : Chunk → Chunk} {z : Value} {zs : List Value} {g : Option (Nat × Bool)}
  [hg : GdT ops ρ g] [hx : EvO ρ x v] [hy : EvO ρ y u] [ht : Und P t (.slice e)] [ht2 : Und P t2 (.slice e)] [hz : Siz P e s] [hzv : Zer P e z] [hzc : CellsL z zs] [hzl : LenL zs s] [hby : Byt P e bytes] [hbp : NeNat bytes 0]
  (hrow : RowG e s N v n xs) (hat : At L N C) (hrd : Rd L s u m news) (hsng : ∀ v ∈ news, Sng v) (hfit : (n + m) * bytes ≤ 140737488355328)
  (next : ∀ v' N', RowG e s N' v' (n + m) (xs ++ news) → ∃ R', (∀ p ∈ R, p ∈ R') ∧ (∀ p ∈ R', p ∈ C N') ∧ RW P w0 rd nt ops K l R' (upd ρ d v') ds (C N')) :
  RW P w0 rd nt ops K (⟨some d, .call { callee := .builtin .append, args := #[x, y], argTypes := #[t, t2] }, ty, pos, after, g⟩ :: l) R ρ ds L :=
 RW.eff hg.out rfl (ef_appendG ht ht2 hz hzv hzc hzl.out hby (Nat.pos_of_ne_zero hbp.ne) hx hy hrow hat hrd hsng hfit) (fun v' L' ⟨N', h1, h2⟩ => by subst h1; exact next v' N' h2) (fun _ _ h => h.elim)
end
end Go.Pw

namespace Go.Pw
section
variable {P : Program} {w0 : World} {rd : Option Nat} {n : Nat} {K : Post} {ρ : Env} {ds : List Deferred} {L R : Chunk} {l : List Oper} {ops : Array Oper} {ty : TypeId} {d : Nat} {pos : String} {after : Array Edge}
theorem RW.lookOk {t kt et : TypeId} {x y : Operand} {k k' : IntKind} {j : Int} {m c : Nat} {es : List MapEntry} {z : Value} {g : Option (Nat × Bool)} [hg : GdT ops ρ g] [ht : Und P t (.map kt et)] [hk : Und P kt (.int k')] [hz : Zer P et z] [hx : EvO ρ x (.map (some m))] [hy : EvO ρ y (.int k j)] [hin : InC R m (.map es.toArray c)] (hes : keysI k es)
  (hs : ∀ v, findI es j = some v → RW P w0 rd n ops K l R (upd ρ d (.tuple #[v, .bool true])) ds L) (hn : findI es j = none → RW P w0 rd n ops K l R (upd ρ d (.tuple #[z, .bool false])) ds L) :
  RW P w0 rd n ops K (⟨some d, .lookup t x y true, ty, pos, after, g⟩ :: l) R ρ ds L := by
 have h := yl_lookupOk (P := P) (L := R) (ty := ty) ht hk hz hx hy hin hes
 cases hf : findI es j with
 | none => rw [hf] at h; exact RW.y h rfl (hn hf)
 | some v => rw [hf] at h; exact RW.y h rfl (hs v hf)
theorem RW.mapDel {dst : Option Tmp} {t kt : TypeId} {et t2 : TypeId} {x y : Operand} {k k' : IntKind} {j : Int} {m c : Nat} {es : List MapEntry} {L' : Chunk} {g : Option (Nat × Bool)} [hg : GdT ops ρ g] [ht : Und P t (.map kt et)] [hk : Und P kt (.int k')] [hx : EvO ρ x (.map (some m))] [hy : EvO ρ y (.int k j)] [hin : InC L m (.map es.toArray c)] (hes : KV k es c)
  [hu : UpdC L m (.map (delE j es).toArray c) L'] (next : ∃ R', (∀ p ∈ R, p ∈ R') ∧ (∀ p ∈ R', p ∈ L') ∧ RW P w0 rd n ops K l R' (updO ρ dst (.tuple #[])) ds L') : RW P w0 rd n ops K (⟨dst, .call { callee := .builtin .delete, args := #[x, y], argTypes := #[t, t2] }, ty, pos, after, g⟩ :: l) R ρ ds L :=
 RW.eff hg.out (by rfl) (ef_delete ht hk hx hy hin hes hu) (fun v L'' ⟨h1, h2⟩ => by subst h1 h2; exact next) (fun _ _ h => h.elim)
end
end Go.Pw

namespace Go.Pw
section
variable {P : Program} {w0 : World} {rd : Option Nat} {n : Nat} {K : Post} {ρ : Env} {ds : List Deferred} {L : Chunk} {l : List Oper} {ops : Array Oper} {ty : TypeId} {d : Nat} {pos : String} {after : Array Edge}
theorem OW.lookD {t kt et : TypeId} {x y : Operand} {k k' : IntKind} {j : Int} {m c : Nat} {es : List MapEntry} {z v : Value} [ht : Und P t (.map kt et)] [hk : Und P kt (.int k')] [hz : Zer P et z] [hx : EvO ρ x (.map (some m))] [hy : EvO ρ y (.int k j)] [hin : InC L m (.map es.toArray c)] (hes : keysI k es)
  (hv : (findI es j).getD z = v) (next : OW P w0 rd n ops K l (upd ρ d v) ds L) : OW P w0 rd n ops K (⟨some d, .lookup t x y false, ty, pos, after, none⟩ :: l) ρ ds L := by
 have h := yl_lookup (P := P) (ty := ty) ht hk hz hx hy hin hes
 rw [hv] at h
 exact OW.y h next
end
end Go.Pw
namespace Go.Pw
section
variable {P : Program} {w0 : World} {rd : Option Nat} {n : Nat} {K : Post} {ρ : Env} {ds : List Deferred} {L L' : Chunk} {c : Code}
theorem CW.perm (hp : L.Perm L') (h : CW P w0 rd n c K ρ ds L') : CW P w0 rd n c K ρ ds L := fun a w hr hst => h a w hr (hst.perm hp)
end
end Go.Pw

namespace Go.Pw
class BEqC (a b : Bool) (r : outParam Bool) : Prop where out : (a == b) = r
instance (priority := high) beqRefl {a : Bool} : BEqC a a true := ⟨by cases a <;> rfl⟩
instance beqTF : BEqC true false false := ⟨rfl⟩
instance beqFT : BEqC false true false := ⟨rfl⟩
class BNeC (a b : Bool) (r : outParam Bool) : Prop where out : (a == b) = !r
instance (priority := high) bneRefl {a : Bool} : BNeC a a false := ⟨by cases a <;> rfl⟩
instance bneTF : BNeC true false true := ⟨rfl⟩
instance bneFT : BNeC false true true := ⟨rfl⟩
section
variable {P : Program} {ρ : Env} {L : Chunk} {ty : TypeId}
theorem run_eqBool {w : World} (d' : Nat) {t : TypeId} {a b : Bool} (ht : P.underlying t = some .bool) : (Op.equalIn (d' + 1) t (.bool a) (.bool b)).run P w = .ok (a == b) w := by
 simp [Op.equalIn, run_underlying ht]
instance op1EqlBool {t yt : TypeId} {x y : Operand} {a b r : Bool} [ht : Und P t .bool] [hx : EvO ρ x (.bool a)] [hy : EvO ρ y (.bool b)] [h : BEqC a b r] : Op1 P ρ L (.binOp .eql t x y yt) ty (.bool r) :=
 ⟨yl_of_run (fun c h => (by cases h)) fun w o ho _ _ => by
  have h1 : (Op.equal t (.bool a) (.bool b)).run P w = .ok (a == b) w := run_eqBool 9999 ht.out
  unfold execOp
  simp [ho, hx.out, hy.out, eqGuard, binOp, h1, h.out]⟩
instance op1NeqBool {t yt : TypeId} {x y : Operand} {a b r : Bool} [ht : Und P t .bool] [hx : EvO ρ x (.bool a)] [hy : EvO ρ y (.bool b)] [h : BNeC a b r] : Op1 P ρ L (.binOp .neq t x y yt) ty (.bool r) :=
 ⟨yl_of_run (fun c h => (by cases h)) fun w o ho _ _ => by
  have h1 : (Op.equal t (.bool a) (.bool b)).run P w = .ok (a == b) w := run_eqBool 9999 ht.out
  unfold execOp
  simp [ho, hx.out, hy.out, eqGuard, binOp, h1, h.out]⟩
end
end Go.Pw

namespace Go.Pw
section
variable {P : Program} {w0 : World} {rd : Option Nat} {n : Nat} {K : Post} {ρ : Env} {ds : List Deferred} {L : Chunk} {l : List Oper} {ops : Array Oper}
end
end Go.Pw

namespace Go.Pw
section
variable {P : Program} {ρ : Env} {L : Chunk} {ty : TypeId}
variable {w0 : World} {rd : Option Nat} {nt : Nat} {K : Post} {ds : List Deferred} {R : Chunk} {ops : Array Oper} {l : List Oper} {d : Nat} {pos : String} {after : Array Edge}
end
end Go.Pw
namespace Go.Pw
class Sfx (L' L : Chunk) : Prop where out : ∃ X, L' = X ++ L
instance (priority := high) sfxRefl {L : Chunk} : Sfx L L := ⟨[], rfl⟩
instance sfxCons {L L' : Chunk} {p : Nat × Obj} [h : Sfx L' L] : Sfx (p :: L') L := ⟨let ⟨X, e⟩ := h.out; ⟨p :: X, by rw [e]; rfl⟩⟩
instance sfxApp {L L' N : Chunk} [h : Sfx L' L] : Sfx (N ++ L') L := ⟨let ⟨X, e⟩ := h.out; ⟨N ++ X, by rw [e, List.append_assoc]⟩⟩
end Go.Pw

namespace Go.Pw
def RowE (e : TypeId) (s : Nat) (N : Chunk) (v : Value) (n : Nat) (xs : List Value) : Prop := Row e s N v n xs ∨ ((∃ base, v = .slice base 0 0) ∧ n = 0 ∧ N = [] ∧ xs = [])
theorem RowE.empty (e : TypeId) (s : Nat) (base : Option Addr) : RowE e s [] (.slice base 0 0) 0 [] := .inr ⟨⟨_, rfl⟩, rfl, rfl, rfl⟩
theorem RowE.rd {e : TypeId} {s n : Nat} {N : Chunk} {v : Value} {xs : List Value} (h : RowE e s N v n xs) : Rd N s v n xs := by
 rcases h with h | ⟨⟨base, rfl⟩, rfl, rfl, rfl⟩
 ·exact h.rd
 ·exact ⟨by simp, .inl ⟨⟨_, _, rfl⟩, rfl⟩⟩
theorem RowE.slice {e : TypeId} {s n : Nat} {N : Chunk} {v : Value} {xs : List Value} (h : RowE e s N v n xs) : ∃ a c, v = .slice a n c := let ⟨a, c, h, _⟩ := h.rd.isSlice; ⟨a, c, h⟩
theorem RowE.sng {e : TypeId} {s n : Nat} {N : Chunk} {v : Value} {xs : List Value} (h : RowE e s N v n xs) : Sng v := by obtain ⟨a, c, rfl⟩ := h.slice; infer_instance
section
variable {P : Program} {ρ : Env} {L : Chunk} {ty : TypeId}
variable {w0 : World} {rd : Option Nat} {nt : Nat} {K : Post} {ds : List Deferred} {R : Chunk} {ops : Array Oper} {l : List Oper} {d : Nat} {pos : String} {after : Array Edge}
end
end Go.Pw

namespace Go.Pw.Md
open Go.Pw.Sc
def LeftZ {α : Type} (zs : List (MapEntry × α)) (seen : Array Nat) (tz : List (MapEntry × α)) : Prop := tz = zs.filter fun z => !seen.contains z.1.born
theorem LeftZ.init {α : Type} (zs : List (MapEntry × α)) : LeftZ zs #[] zs := by
 unfold LeftZ
 exact (List.filter_eq_self.2 fun _ _ => by simp).symm
theorem LeftZ.left {α : Type} {zs tz : List (MapEntry × α)} {seen : Array Nat} (h : LeftZ zs seen tz) : Left (zs.map (·.1)) seen (tz.map (·.1)) := by
 unfold Left LeftZ at *
 rw [h, List.filter_map]
 rfl
theorem LeftZ.step {α : Type} {zs tz : List (MapEntry × α)} {seen : Array Nat} (hn : (zs.map fun z => z.1.born).Nodup) (h : LeftZ zs seen tz) {z : MapEntry × α} (hz : z ∈ tz) :
  ∃ A B, tz = A ++ z :: B ∧ LeftZ zs (seen.push z.1.born) (A ++ B) := by
 obtain ⟨A, B, rfl⟩ := List.append_of_mem hz
 refine ⟨A, B, rfl, ?_⟩
 have hn : ((A ++ z :: B).map fun z => z.1.born).Nodup := by rw [h]; exact List.Nodup.sublist (List.filter_sublist.map _) hn
 have e1 : (zs.filter fun x => !(seen.push z.1.born).contains x.1.born) = (zs.filter fun x => !seen.contains x.1.born).filter fun x => decide (x.1.born ≠ z.1.born) := by
  rw [List.filter_filter]
  refine List.filter_congr fun x _ => ?_
  simp only [Array.contains_push]
  by_cases hx : x.1.born = z.1.born
  ·simp [hx]
  ·have : (x.1.born == z.1.born) = false := by simpa using hx
   simp [this, hx]
 unfold LeftZ at h ⊢
 rw [e1, ← h, List.filter_append, List.filter_cons_of_neg (by simp)]
 rw [List.map_append, List.nodup_append, List.map_cons, List.nodup_cons] at hn
 rw [List.filter_eq_self.2, List.filter_eq_self.2]
 ·intro a ha
  simp only [decide_eq_true_eq]
  intro hh
  exact hn.2.1.1 (List.mem_map.2 ⟨a, ha, hh⟩)
 ·intro a ha
  simp only [decide_eq_true_eq]
  intro hh
  exact hn.2.2 _ (List.mem_map.2 ⟨a, ha, rfl⟩) _ (List.mem_cons_self ..) hh
section
variable {P : Program} {w0 : World} {rd : Option Nat} {n : Nat} {K : Post} {ρ : Env} {ds : List Deferred} {L R : Chunk} {l : List Oper} {ops : Array Oper} {ty : TypeId} {d : Nat} {pos : String} {after : Array Edge}
theorem OW.nextZ {α : Type} {x : Operand} {r m since c0 clock : Nat} {seen : Array Nat} {es : List MapEntry} {zs tz : List (MapEntry × α)} {q : IntKind} {C : Chunk → Chunk} [hx : EvO ρ x (.pointer (some ⟨r, 0, none⟩))] [hat : At L [(r, .mapIter (some m) since seen c0)] C] [hin : InC L m (.map es.toArray clock)]
  (hk : KV q es clock) (hes : es = zs.map (·.1)) (hl : LeftZ zs seen tz) (hold : ∀ e ∈ es, e.born < since) (hsc : since ≤ c0)
  (h0 : tz = [] → OW P w0 rd n ops K l (upd ρ d (.tuple #[.bool false])) ds L)
  (h1 : ∀ A z B, tz = A ++ z :: B → z ∈ zs → LeftZ zs (seen.push z.1.born) (A ++ B) → OW P w0 rd n ops K l (upd ρ d (.tuple #[.bool true, z.1.key, z.1.val])) ds (C [(r, .mapIter (some m) since (seen.push z.1.born) clock)])) :
  OW P w0 rd n ops K (⟨some d, .next x false, ty, pos, after, none⟩ :: l) ρ ds L :=
 OW.next hold hsc (fun h => by
  have h2 := leftOf_none (hes ▸ hl.left) h
  exact h0 (by simpa using h2)) (fun e he => by
  have hm := leftOf_mem (hes ▸ hl.left) he
  obtain ⟨z, hz, rfl⟩ := List.mem_map.1 hm
  obtain ⟨A, B, e1, e2⟩ := hl.step (by have := hk.births; rw [hes, List.map_map] at this; exact this) hz
  refine h1 A z B e1 ?_ e2
  rw [hl] at hz
  exact (List.mem_filter.1 hz).1)
end
@[reducible] def pcV (p : Pc) (v : Value) : Value := .agg #[.int .u32 p.ad, .int .i64 p.size, .int .i64 p.room, v]
def PcAt (L : Chunk) (e : MapEntry) (p : Pc) : Prop := e.key = .int .u32 p.ad ∧ ∃ v, e.val = pcV p v ∧ Rd L 1 v p.b.length (iv p.b)
theorem PcAt.to {L L' : Chunk} {e : MapEntry} {p : Pc} (h : PcAt L e p) [hm : MemC L L'] : PcAt L' e p := let ⟨a, v, b, c⟩ := h; ⟨a, v, b, c.to⟩
structure Zs (L : Chunk) (es : List MapEntry) (zs : List (MapEntry × Pc)) : Prop where
 es : es = zs.map (·.1)
 at_ : ∀ z ∈ zs, PcAt L z.1 z.2
theorem Zs.to {L L' : Chunk} {es : List MapEntry} {zs : List (MapEntry × Pc)} (h : Zs L es zs) [hm : MemC L L'] : Zs L' es zs := ⟨h.es, fun z hz => (h.at_ z hz).to⟩
def MRest (L : Chunk) (bp : Nat) (m : Mod) : Prop := ∃ es c zs, InC L bp (.map (List.toArray es) c) ∧ KV .u32 es c ∧ Zs L es zs ∧ (zs.map (·.2)).Perm m.L
theorem MRest.to {L L' : Chunk} {bp : Nat} {m : Mod} (h : MRest L bp m) [hm : MemC L L'] : MRest L' bp m := let ⟨es, c, zs, a, b, d, e⟩ := h; ⟨es, c, zs, ⟨hm.out _ a.out⟩, b, d.to, e⟩
@[reducible] def mcells (m : Mod) (bp : Nat) : List Value := [.int .i64 m.slot, .int .i64 m.quota, .map (some bp)]
theorem Zs.find {L : Chunk} {es : List MapEntry} {zs : List (MapEntry × Pc)} {c : Nat} (h : Zs L es zs) (hk : KV .u32 es c) {a : Int} {v : Value} (hf : findI es a = some v) : ∃ z ∈ zs, z.2.ad = a ∧ z.1.val = v := by
 obtain ⟨A, e, B, e1, e2, e3⟩ := hk.some_of hf
 have he : e ∈ es := by rw [e1]; simp
 rw [h.es] at he
 obtain ⟨z, hz, rfl⟩ := List.mem_map.1 he
 refine ⟨z, hz, ?_, e3⟩
 have := (h.at_ z hz).1
 rw [e2] at this
 cases this
 rfl
theorem Zs.find_none {L : Chunk} {es : List MapEntry} {zs : List (MapEntry × Pc)} {c : Nat} (h : Zs L es zs) (hk : KV .u32 es c) {a : Int} (hf : findI es a = none) : ∀ z ∈ zs, z.2.ad ≠ a := fun z hz e => by
 have h1 := hk.none_of hf z.1 (by rw [h.es]; exact List.mem_map.2 ⟨z, hz, rfl⟩)
 rw [(h.at_ z hz).1] at h1
 exact h1 e
theorem perm_find {m : Mod} (hm : WF m) {ps : List Pc} (hp : ps.Perm m.L) {p : Pc} (h : p ∈ ps) : m.find p.ad = some p := find_of hm (hp.mem_iff.1 h)
theorem perm_find_none {m : Mod} {ps : List Pc} (hp : ps.Perm m.L) {a : Int} (h : ∀ p ∈ ps, p.ad ≠ a) : m.find a = none := List.find?_eq_none.2 fun p hp' => by simpa using h p (hp.mem_iff.2 hp')
end Go.Pw.Md

namespace Go.Pw.Md
def overK (a : Int) (bs : List Int) (ad k : Int) (b : List Int) : List Int := b.zipIdx.map fun x => if a ≤ ad + (x.2 : Int) ∧ ad + (x.2 : Int) < k then bs.getD (ad + x.2 - a).toNat 0 else x.1
def agreesK (a : Int) (bs : List Int) (ad k : Int) (b : List Int) : Prop := ∀ d : Nat, d < b.length → a ≤ ad + (d : Int) → ad + (d : Int) < k → b.getD d 0 = -1 ∨ b.getD d 0 = bs.getD (ad + d - a).toNat 0
instance (a : Int) (bs : List Int) (ad k : Int) (b : List Int) : Decidable (agreesK a bs ad k b) := by unfold agreesK; infer_instance
theorem overK_len (a : Int) (bs : List Int) (ad k : Int) (b : List Int) : (overK a bs ad k b).length = b.length := by simp [overK]
theorem overK_get {a : Int} {bs : List Int} {ad k : Int} {b : List Int} {d : Nat} (hd : d < b.length) : (overK a bs ad k b)[d]? = some (if a ≤ ad + (d : Int) ∧ ad + (d : Int) < k then bs.getD (ad + d - a).toNat 0 else b[d]) := by
 simp [overK, List.getElem?_zipIdx, List.getElem?_eq_getElem hd]
theorem overK_same {a : Int} {bs : List Int} {ad k : Int} {b : List Int} (h : ∀ d : Nat, d < b.length → ¬ (a ≤ ad + (d : Int) ∧ ad + (d : Int) < k)) : overK a bs ad k b = b := by
 apply List.ext_getElem?
 intro d
 by_cases hd : d < b.length
 ·rw [overK_get hd, if_neg (h d hd), List.getElem?_eq_getElem hd]
 ·rw [List.getElem?_eq_none (by rw [overK_len]; omega), List.getElem?_eq_none (by omega)]
theorem overK_start {a : Int} {bs : List Int} {ad : Int} {b : List Int} : overK a bs ad (max a ad) b = b := overK_same fun d _ h => by omega
theorem over_eq {a : Int} {bs : List Int} {p : Pc} : (over a bs p).b = overK a bs p.ad (a + bs.length) p.b := rfl
theorem overK_end {a : Int} {bs : List Int} {p : Pc} (hl : (p.b.length : Int) = p.room) : overK a bs p.ad (min (a + bs.length) (p.ad + p.room)) p.b = (over a bs p).b := by
 rw [over_eq]
 apply List.ext_getElem?
 intro d
 by_cases hd : d < p.b.length
 ·rw [overK_get hd, overK_get hd]
  congr 1
  by_cases hc : a ≤ p.ad + (d : Int) ∧ p.ad + (d : Int) < a + bs.length
  ·rw [if_pos hc, if_pos (by omega)]
  ·rw [if_neg hc, if_neg (by omega)]
 ·rw [List.getElem?_eq_none (by rw [overK_len]; omega), List.getElem?_eq_none (by rw [overK_len]; omega)]
theorem overK_step {a : Int} {bs : List Int} {ad k : Int} {b : List Int} (h1 : a ≤ k) (h2 : ad ≤ k) (h3 : k < ad + b.length) : overK a bs ad (k + 1) b = (overK a bs ad k b).set (k - ad).toNat (bs.getD (k - a).toNat 0) := by
 apply List.ext_getElem?
 intro d
 rw [List.getElem?_set]
 by_cases hd : d < b.length
 ·rw [overK_get hd]
  by_cases hk : (k - ad).toNat = d
  ·rw [if_pos hk, if_pos (by omega), if_pos (by rw [overK_len]; omega)]
   congr 2
   omega
  ·rw [if_neg hk, overK_get hd]
   congr 1
   by_cases hc : a ≤ ad + (d : Int) ∧ ad + (d : Int) < k
   ·rw [if_pos hc, if_pos (by omega)]
   ·rw [if_neg hc, if_neg (by omega)]
 ·rw [List.getElem?_eq_none (by rw [overK_len]; omega), if_neg (by omega), List.getElem?_eq_none (by rw [overK_len]; omega)]
theorem overK_old {a : Int} {bs : List Int} {ad k : Int} {b : List Int} {d : Nat} (hd : d < b.length) (hk : (d : Int) = k - ad) : (overK a bs ad k b)[d]? = some b[d] := by
 rw [overK_get hd, if_neg (by omega)]
theorem over_none {a : Int} {bs : List Int} {p : Pc} (hl : (p.b.length : Int) = p.room) (h : min (a + bs.length) (p.ad + p.room) ≤ max a p.ad) : over a bs p = p := by
 have e : (over a bs p).b = p.b := by
  rw [over_eq]
  exact overK_same fun d hd hc => by omega
 have : over a bs p = { p with b := (over a bs p).b } := rfl
 rw [this, e]
theorem agreesK_start {a : Int} {bs : List Int} {ad : Int} {b : List Int} : agreesK a bs ad (max a ad) b := fun d _ h1 h2 => by omega
theorem agreesK_end {a : Int} {bs : List Int} {p : Pc} (hl : (p.b.length : Int) = p.room) : agreesK a bs p.ad (min (a + bs.length) (p.ad + p.room)) p.b ↔ agrees a bs p :=
 ⟨fun h d hd h1 h2 => h d hd h1 (by omega), fun h d hd h1 h2 => h d hd h1 (by omega)⟩
theorem agrees_none {a : Int} {bs : List Int} {p : Pc} (hl : (p.b.length : Int) = p.room) (h : min (a + bs.length) (p.ad + p.room) ≤ max a p.ad) : agrees a bs p := fun d hd h1 h2 => by omega
theorem agreesK_step {a : Int} {bs : List Int} {ad k : Int} {b : List Int} (h1 : a ≤ k) (h2 : ad ≤ k) {d : Nat} (hd : d < b.length) (hk : (d : Int) = k - ad) :
  agreesK a bs ad (k + 1) b ↔ agreesK a bs ad k b ∧ (b[d] = -1 ∨ b[d] = bs.getD (k - a).toNat 0) := by
 have hb : b.getD d 0 = b[d] := by rw [List.getD_eq_getElem?_getD, List.getElem?_eq_getElem hd]; rfl
 constructor
 ·intro h
  refine ⟨fun e he h1 h2 => h e he h1 (by omega), ?_⟩
  have := h d hd (by omega) (by omega)
  rw [hb, show ad + (d : Int) - a = k - a by omega] at this
  exact this
 ·rintro ⟨h, h3⟩ e he g1 g2
  by_cases hed : e = d
  ·subst hed
   rw [hb, show ad + (e : Int) - a = k - a by omega]
   exact h3
  ·exact h e he g1 (by omega)
end Go.Pw.Md

namespace Go.Pw
section
variable {P : Program} {w0 : World} {rd : Option Nat} {n : Nat} {K : Post} {ρ : Env} {ds : List Deferred} {L : Chunk} {l : List Oper}
theorem CW.drawsSwR {id : Nat} (is0 is : List Nat) (k : Nat) (ks : List Nat) (hm : P.follows .mixedOrders = true) (hok : regionOkS n l.toArray is0 is k ks = true) [hK : StdC K]
  {l0 l1 l2 : List Oper} [p0 : Pick l is0 l0] [p1 : Pick l is l1] [p2 : Pick l (k :: ks) l2]
  (h : RW P w0 rd n l.toArray (thenK (fun ρ ds L => ∃ R, (∀ p ∈ R, p ∈ L) ∧ RW P w0 rd n l.toArray (thenK (fun ρ ds L => OW P w0 rd n l.toArray K l2 ρ ds L) K) l1 R ρ ds L) K) l0 [] ρ ds L) : CW P w0 rd n (.region id l.toArray true) K ρ ds L := by
 have := p0.out; subst this
 have := p1.out; subst this
 have := p2.out; subst this
 intro a w hr hs
 simp only [regionOkS, Bool.and_eq_true, decide_eq_true_eq] at hok
 obtain ⟨⟨⟨⟨⟨⟨⟨⟨h1, h2⟩, h3⟩, h4⟩, h5⟩, h50⟩, h6⟩, h7⟩, h8⟩ := hok
 have hpure : ∀ o ∈ pickOps l is0, isEff o = false := fun o ho => by simpa using List.all_eq_true.1 h50 o ho
 have hmem : ∀ {is : List Nat} (o : Oper), o ∈ pickOps l is → dstOk n o = true := fun o ho => Array.all_eq_true_iff_forall_mem.1 h2 o (by simpa using pickOps_mem ho)
 have hin : ∀ {is : List Nat}, ∀ o ∈ pickOps l is, ∃ i : Nat, l.toArray[i]? = some o := fun o ho => by
  obtain ⟨k, hk⟩ := List.mem_iff_getElem?.1 (pickOps_mem ho)
  exact ⟨k, by simpa using hk⟩
 refine wpIn_region_any hm (AnyR.any _ _ [] _ _ ?_)
 refine RDc.anyP (more := is.length + (ks.length + 1)) (last := tick is0 (Array.replicate l.toArray.size false)) (Fin := fun R' a w => FinR w0 n (thenK (fun ρ ds L => ∃ R, (∀ p ∈ R, p ∈ L) ∧ RW P w0 rd n l.toArray (thenK (fun ρ ds L => OW P w0 rd n l.toArray K (pickOps l (k :: ks)) ρ ds L) K) (pickOps l is) R ρ ds L) K) R' a w ∧ R' = [])
  (fence_fn rd) h1 (Kx.steady hK.out) (fun R a w hp hf fuel hfu => ?_) is0 _ _ [] a _ (by omega) rfl h4 (fun _ _ h => (by cases h)) (RDl.rdc is0 _ [] a _ h4 ?_)
 ·obtain ⟨⟨ρ, ds, L, hr, hs, hRL, hw⟩, rfl⟩ := hf
  obtain ⟨R0, hR0, hw⟩ : ∃ R, (∀ p ∈ R, p ∈ L) ∧ RW P w0 rd n l.toArray (thenK (fun ρ ds L => OW P w0 rd n l.toArray K (pickOps l (k :: ks)) ρ ds L) K) (pickOps l is) R ρ ds L := hw
  have hw2 := hw hmem hR0 a w hr hs
  have hw3 := RDl.quit (Q' := Kx w0 n K) (Q := Kx w0 n (thenK (fun ρ ds L => OW P w0 rd n l.toArray K (pickOps l (k :: ks)) ρ ds L) K)) (fun e a w h => h) (fun ⟨a, w, h⟩ => ⟨a, w, h⟩) (pickOps l is) R0 a _ hin hw2
  have hb := RDc.anyB (base := tick is0 (Array.replicate l.toArray.size false)) (more := ks.length + 1) (last := tick is (tick is0 (Array.replicate l.toArray.size false))) (Fin := FinR w0 n (thenK (fun ρ ds L => OW P w0 rd n l.toArray K (pickOps l (k :: ks)) ρ ds L) K))
   (fence_fn rd) h1 (Kx.steady hK.out) (fun R a w hp hf fuel hfu => by
    obtain ⟨ρ, ds, L, hr, hs, hRL, hw⟩ := hf
    have hw : OW P w0 rd n l.toArray K (pickOps l (k :: ks)) ρ ds L := hw
    have h9 := hw (List.all_eq_true.2 fun o ho => hmem o ho) a w hr hs
    exact chain_anyB (k :: ks) fuel _ R a w (by simpa using hfu) h8 (.inr fun k' hk => by
     obtain rfl : k' = k := by simpa using hk.symm
     exact h7) h9) is fuel _ R0 a w (fun i hi => by simpa using List.all_eq_true.1 h6 i hi) hfu rfl h5 (fun b o hb => hs.pn b o (hR0 _ hb)) (RDl.rdc is _ R0 a w h5 hw3)
  have hany := AnyB.anyR _ _ _ _ _ hb
  exact hany
 ·have h12 := h hmem (fun _ h => (by cases h)) a _ hr hs.drew
  exact RDl.keep _ _ _ _ hpure (RDl.quit (Q' := Kx w0 n K) (Q := Kx w0 n (thenK (fun ρ ds L => ∃ R, (∀ p ∈ R, p ∈ L) ∧ RW P w0 rd n l.toArray (thenK (fun ρ ds L => OW P w0 rd n l.toArray K (pickOps l (k :: ks)) ρ ds L) K) (pickOps l is) R ρ ds L) K)) (fun e a w h => h) (fun ⟨a, w, h⟩ => ⟨a, w, h⟩) (pickOps l is0) [] a _ hin h12)
end
section
variable {P : Program} {w0 : World} {rd : Option Nat} {n : Nat} {K : Post} {ρ : Env} {ds : List Deferred} {L R : Chunk} {l : List Oper} {ops : Array Oper} {ty : TypeId} {pos : String} {after : Array Edge}
theorem RW.entryStore {t : TypeId} {x y z : Operand} {m c c' : Nat} {es : List MapEntry} {key w v : Value} {L' : Chunk} {g : Option (Nat × Bool)} [hg : GdT ops ρ g] [hx : EvO ρ x (.map (some m))] [hy : EvO ρ y (.int .i64 (c : Int))] [hz : EvO ρ z v] [hin : InC L m (.map (es ++ [MapEntry.mk key w c]).toArray c')] (ho : ∀ e ∈ es, e.born < c)
  [hu : UpdC L m (.map (es ++ [MapEntry.mk key v c]).toArray c') L'] (next : ∃ R', (∀ p ∈ R, p ∈ R') ∧ (∀ p ∈ R', p ∈ L') ∧ RW P w0 rd n ops K l R' ρ ds L') :
  RW P w0 rd n ops K (⟨none, .entryStore t x y z, ty, pos, after, g⟩ :: l) R ρ ds L :=
 RW.eff hg.out rfl (opuEntry hx hy hz hin ho hu).ef (fun v L'' ⟨h1, h2⟩ => by subst h1 h2; exact next) (fun _ _ h => h.elim)
end
end Go.Pw

namespace Go.Pw
open Go.Sort
section
variable {P : Program} {w0 : World} {rd : Option Nat} {n : Nat} {K : Post} {ρ : Env} {ds : List Deferred} {L R : Chunk} {l : List Oper} {ops : Array Oper} {ty : TypeId} {d : Nat} {pos : String} {after : Array Edge}
theorem yl_indexStr {t : TypeId} {x i : Operand} {kk : IntKind} {j : Int} {s : ByteArray} {b : UInt8} (ht : Und P t .string) (hx : EvO ρ x (.string s)) (hi : EvO ρ i (.int kk j)) (h0 : 0 ≤ j) (hb : s[j.toNat]? = some b) : Yl P ρ L (.index t x i) ty (.int .u8 b.toNat) :=
 yl_of_run (fun c h => (by cases h)) fun w o ho _ _ => by
  unfold execOp
  simp [ho, hx.out, hi.out, Instr.index, asIntOf, run_underlying ht.out, h0, hb]
def lenTab (s : ByteArray) : Bool := (List.range 256).all fun i => (s[i]?).map UInt8.toNat == some (bitsLen i)
theorem bitsLen_small {n : Nat} (h : n < 256) : bitsLen n ≤ 8 := (bitsLen_le_iff n 8).2 h
theorem OW.ixLen {t : TypeId} {x i : Operand} {kk : IntKind} {j : Int} {s : ByteArray} [ht : Und P t .string] [hx : EvO ρ x (.string s)] [hi : EvO ρ i (.int kk j)] (htab : lenTab s = true) (h : 0 ≤ j ∧ j < 256)
  (next : ∀ r : Nat, r = bitsLen j.toNat → r ≤ 8 → OW P w0 rd n ops K l (upd ρ d (.int .u8 (r : Int))) ds L) : OW P w0 rd n ops K (⟨some d, .index t x i, ty, pos, after, none⟩ :: l) ρ ds L := by
 have h1 := List.all_eq_true.1 htab j.toNat (List.mem_range.2 (by omega))
 rw [beq_iff_eq] at h1
 cases hb : s[j.toNat]? with
 | none => rw [hb] at h1; cases h1
 | some b =>
  rw [hb] at h1
  simp only [Option.map_some, Option.some.injEq] at h1
  have := OW.y (P := P) (ty := ty) (pos := pos) (after := after) (yl_indexStr ht hx hi h.1 hb) (next b.toNat h1 (by rw [h1]; exact bitsLen_small (by omega)))
  exact this
end
theorem bl_shift {n k : Nat} (h : 2 ^ k ≤ n) : bitsLen n = k + bitsLen (n / 2 ^ k) := by
 have hk : 0 < 2 ^ k := Nat.pow_pos (by decide)
 apply Nat.le_antisymm
 ·rw [bitsLen_le_iff, Nat.pow_add, Nat.mul_comm]
  exact (Nat.div_lt_iff_lt_mul hk).1 (lt_two_pow_bitsLen _)
 ·have h1 := lt_two_pow_bitsLen n
  have hkn : k ≤ bitsLen n := by
   rcases Nat.lt_or_ge (bitsLen n) k with hlt | hge
   ·have := Nat.pow_lt_pow_right (a := 2) (by decide) hlt
    omega
   ·exact hge
  have : bitsLen (n / 2 ^ k) ≤ bitsLen n - k := by
   rw [bitsLen_le_iff, Nat.div_lt_iff_lt_mul hk, ← Nat.pow_add, Nat.sub_add_cancel hkn]
   exact h1
  omega
theorem shrK {x : Int} (k : Nat) (hk : k ≤ 64) : shrV .u64 x (k : Int) = x / ((2 ^ k : Nat) : Int) := by
 unfold shrV
 have e : min (k : Int).toNat IntKind.u64.bits = k := by
  have : (k : Int).toNat = k := by omega
  rw [this]; show min k 64 = k; omega
 rw [e, Int.fdiv_eq_ediv_of_nonneg _ (Int.pow_nonneg (by decide))]
 simp
class AnN (a b : Int) (m : outParam Int) : Prop where out : bitsV .and .u64 a b = m
section
variable {P : Program} {ρ : Env} {L : Chunk} {ty : TypeId}
instance (priority := high) op1AndN {t yt : TypeId} {x y : Operand} {a b m : Int} [hx : EvO ρ x (.int .u64 a)] [hy : EvO ρ y (.int .u64 b)] [hm : AnN a b m] : Op1 P ρ L (.binOp .and t x y yt) ty (.int .u64 m) := ⟨by
 rw [← hm.out]
 exact (op1And (P := P) (ρ := ρ) (L := L) (ty := ty) (t := t) (yt := yt) (x := x) (y := y) (k := .u64) (a := a) (b := b)).yl⟩
end
class ShN (a b : Int) (m : outParam Int) : Prop where out : shrV .u64 a b = m
section
variable {P : Program} {ρ : Env} {L : Chunk} {ty : TypeId}
instance (priority := high) op1ShrN {t yt : TypeId} {x y : Operand} {k' : IntKind} {a b m : Int} [hx : EvO ρ x (.int .u64 a)] [hy : EvO ρ y (.int k' b)] [h : NN b] [hm : ShN a b m] : Op1 P ρ L (.binOp .shr t x y yt) ty (.int .u64 m) := ⟨by
 rw [← hm.out]
 exact yl_shr hx hy h.out⟩
end
end Go.Pw

namespace Go.Pw.Or
open Go Go.Pw
def setI : List Nat → Nat
 | [] => 0
 | k :: o => 1 <<< k ||| setI o
theorem setI_append : ∀ a b : List Nat, setI (a ++ b) = setI a ||| setI b
 | [], b => by simp [setI]
 | k :: a, b => by rw [List.cons_append, setI, setI_append a b, setI, Nat.or_assoc]
theorem setI_mid (A B : List Nat) (k : Nat) : setI (A ++ k :: B) = 1 <<< k ||| setI (A ++ B) := by
 rw [setI_append, setI_append, setI, ← Nat.or_assoc, ← Nat.or_assoc, Nat.or_comm (setI A)]
theorem setI_bit : ∀ (o : List Nat) (i : Nat), (setI o).testBit i = o.contains i
 | [], i => by simp [setI]
 | k :: o, i => by
  rw [setI, Nat.testBit_or, setI_bit o i, Nat.shiftLeft_eq, Nat.one_mul, Nat.testBit_two_pow, List.contains_cons]
  congr 1
  by_cases h : k = i
  ·subst h; simp
  ·have : ¬ i = k := fun e => h e.symm
   simp [h, this]
theorem setI_inj {a b : List Nat} (h : setI a = setI b) (i : Nat) : i ∈ a ↔ i ∈ b := by
 have h1 := setI_bit a i
 have h2 := setI_bit b i
 rw [h, h2] at h1
 rw [List.contains_eq_mem, List.contains_eq_mem] at h1
 simpa using h1.symm
theorem or_i64 {a b : Nat} (ha : a < 2 ^ 16) (hb : b < 2 ^ 16) : bitsV .or .i64 (a : Int) (b : Int) = ((a ||| b : Nat) : Int) := by
 have h := Nat.or_lt_two_pow ha hb
 have e : bitsV .or .i64 (a : Int) (b : Int) = IntKind.i64.wrap ((BitVec.ofInt 64 (a : Int) ||| BitVec.ofInt 64 (b : Int)).toNat : Int) := rfl
 rw [e, BitVec.ofInt_natCast, BitVec.ofInt_natCast, BitVec.toNat_or, BitVec.toNat_ofNat, BitVec.toNat_ofNat, Nat.mod_eq_of_lt (by omega), Nat.mod_eq_of_lt (by omega)]
 exact IntWalk.i64_in _ (by omega)
theorem shl_i64 {k : Nat} (hk : k < 16) : shlV .i64 1 (k : Int) = ((1 <<< k : Nat) : Int) := by
 unfold shlV
 have e : min (k : Int).toNat IntKind.i64.bits = k := by
  have : (k : Int).toNat = k := by omega
  rw [this]; show min k 64 = k; omega
 rw [e, Nat.shiftLeft_eq, Nat.one_mul]
 have h : 2 ^ k < 2 ^ 16 := Nat.pow_lt_pow_right (by decide) hk
 rw [Int.one_mul]
 have e2 : (2 : Int) ^ k = ((2 ^ k : Nat) : Int) := by simp
 rw [e2]
 generalize 2 ^ k = q at h
 exact IntWalk.i64_in (q : Int) (by omega)
theorem zip_key {α β γ : Type} {f : α → γ} {g : β → γ} : ∀ (es : List α) (o : List β), es.map f = o.map g → (∀ z ∈ es.zip o, f z.1 = g z.2) ∧ (es.zip o).map (·.1) = es ∧ (es.zip o).map (·.2) = o
 | [], [], _ => ⟨fun _ h => (by cases h), rfl, rfl⟩
 | [], _ :: _, h => by cases h
 | _ :: _, [], h => by cases h
 | e :: es, k :: o, h => by
  obtain ⟨h1, h2⟩ := List.cons.inj h
  obtain ⟨i1, i2, i3⟩ := zip_key es o h2
  refine ⟨fun z hz => ?_, ?_, ?_⟩
  ·rcases List.mem_cons.1 hz with rfl | hz
   ·exact h1
   ·exact i1 z hz
  ·rw [List.zip_cons_cons, List.map_cons, i2]
  ·rw [List.zip_cons_cons, List.map_cons, i3]
end Go.Pw.Or

namespace Go.Pw.Md
theorem ads_ne {l : List Pc} (hl : l.Pairwise fun p q => p.ad + p.room ≤ q.ad) (hok : ∀ p ∈ l, PcOk p) : l.Pairwise fun p q => p.ad < q.ad := by
 refine List.Pairwise.imp_of_mem (fun {p q} hp hq h => ?_) hl
 have := (hok p hp).room
 omega
theorem WF.rise {m : Mod} (h : WF m) : m.L.Pairwise fun p q => p.ad < q.ad := ads_ne h.apart h.ok
theorem perm_eq {m m' : Mod} (h : WF m) (h' : WF m') (hp : m.L.Perm m'.L) : m.L = m'.L :=
 List.Perm.eq_of_pairwise (le := fun p q : Pc => p.ad < q.ad) (fun a b _ _ h1 h2 => by omega) h.rise h'.rise hp
end Go.Pw.Md

namespace Go.Pw.Md
open Go.Pw.Sc
@[reducible] def pcC (p : Pc) (v : Value) : List Value := [.int .u32 p.ad, .int .i64 p.size, .int .i64 p.room, v]
def PcR (L : Chunk) (c : List Value) (p : Pc) : Prop := ∃ v, c = pcC p v ∧ Rd L 1 v p.b.length (iv p.b)
theorem PcR.to {L L' : Chunk} [hm : MemC L L'] (c : List Value) (p : Pc) (h : PcR L c p) : PcR L' c p := let ⟨v, a, b⟩ := h; ⟨v, a, b.to⟩
abbrev RL (L : Chunk) (v : Value) (ps : List Pc) : Prop := LS 4 PcR L v ps
@[reducible] def mV (m : Mod) (v : Value) : Value := .agg #[.int .i64 m.slot, .int .i64 m.quota, v]
class Pre (L' L : Chunk) (X : outParam Chunk) : Prop where out : L' = X ++ L
instance (priority := high) preRefl {L : Chunk} : Pre L L [] := ⟨rfl⟩
instance preCons {L L' X : Chunk} {p : Nat × Obj} [h : Pre L' L X] : Pre (p :: L') L (p :: X) := ⟨by rw [h.out]; rfl⟩
instance preApp {L L' X N : Chunk} [h : Pre L' L X] : Pre (N ++ L') L (N ++ X) := ⟨by rw [h.out, List.append_assoc]⟩
def DoR (D L : Chunk) (r : Mod × Bool) (u : Value) (L' : Chunk) : Prop :=
 ∃ m' v' N, u = .tuple #[mV m' v', .bool r.2] ∧ L' = N ++ L ∧ Sng v' ∧ (r.2 = true → m' = r.1 ∧ RL (N ++ D) v' m'.L)
theorem DoR.same {D L : Chunk} {m : Mod} {v : Value} {b : Bool} (h : RL D v m.L) : DoR D L (m, b) (.tuple #[mV m v, .bool b]) L := ⟨m, v, [], rfl, rfl, h.sng, fun _ => ⟨rfl, h⟩⟩
theorem LAt.take {α : Type} {s : Nat} {R : List Value → α → Prop} : ∀ {xs : List Value} {ags : List α} (i : Nat), LAt s R xs ags → LAt s R (xs.take (i * s)) (ags.take i)
 | xs, [], i, h => by have : xs = [] := h; subst this; simp; exact rfl
 | _, _ :: _, 0, h => by simp; exact rfl
 | _, a :: ags, i + 1, ⟨c, r, e, h0, h1, h2⟩ => by
  refine ⟨c, r.take (i * s), ?_, h0, h1, LAt.take i h2⟩
  rw [e, show (i + 1) * s = c.length + i * s by rw [h0, Nat.add_mul]; omega, List.take_length_add_append]
theorem LAt.drop {α : Type} {s : Nat} {R : List Value → α → Prop} : ∀ {xs : List Value} {ags : List α} (i : Nat), LAt s R xs ags → LAt s R (xs.drop (i * s)) (ags.drop i)
 | xs, [], i, h => by have : xs = [] := h; subst this; simp; exact rfl
 | _, _ :: _, 0, h => by simpa using h
 | _, a :: ags, i + 1, ⟨c, r, e, h0, h1, h2⟩ => by
  rw [e, show (i + 1) * s = c.length + i * s by rw [h0, Nat.add_mul]; omega, ← List.drop_drop, List.drop_left]
  exact LAt.drop i h2
theorem LAt.set {α : Type} {s : Nat} {R : List Value → α → Prop} : ∀ {xs : List Value} {ags : List α} (i : Nat) {c : List Value} {a : α}, i < ags.length → LAt s R xs ags → c.length = s → R c a → LAt s R (xs.take (i * s) ++ c ++ xs.drop ((i + 1) * s)) (ags.set i a)
 | _, _ :: ts, 0, c', a', _, ⟨c, r, e, h0, h1, h2⟩, hc, hR => by
  refine ⟨c', r, ?_, hc, hR, h2⟩
  rw [e, ← h0, Nat.zero_mul, List.take_zero, List.nil_append, Nat.zero_add, Nat.one_mul, List.drop_left]
 | _, b :: ts, i + 1, c', a', hi, ⟨c, r, e, h0, h1, h2⟩, hc, hR => by
  have h3 := LAt.set i (by simpa using hi) h2 hc hR
  refine ⟨c, _, ?_, h0, h1, h3⟩
  rw [e, show (i + 1) * s = c.length + i * s by rw [h0, Nat.add_mul]; omega, List.take_length_add_append, show (i + 1 + 1) * s = c.length + (i + 1) * s by rw [h0]; simp only [Nat.add_mul]; omega, ← List.drop_drop, List.drop_left]
  simp only [List.append_assoc]
  rw [h0, show (i + 1) * s = s + i * s by rw [Nat.add_mul]; omega]
end Go.Pw.Md

namespace Go.Pw
theorem eq_three {P : Program} {t t1 t2 t3 : TypeId} {k1 k2 k3 : IntKind} {f1 f2 f3 : Field} (hf : P.underlying t = some (.struct #[f1, f2, f3])) (h1 : f1.type = t1 ∧ f1.offset = 0 ∧ f1.name ≠ "_") (h2 : f2.type = t2 ∧ f2.offset = 1 ∧ f2.name ≠ "_") (h3 : f3.type = t3 ∧ f3.offset = 2 ∧ f3.name ≠ "_")
  [u1 : Und P t1 (.int k1)] [u2 : Und P t2 (.int k2)] [u3 : Und P t3 (.int k3)] [a1 : Agg P t1 false] [a2 : Agg P t2 false] [a3 : Agg P t3 false]
  (hs : P.stoodInHeld t = false) (w : World) (a b e c d g : Int) : (Op.equalIn 10000 t (.agg #[.int k1 a, .int k2 b, .int k3 e]) (.agg #[.int k1 c, .int k2 d, .int k3 g])).run P w = .ok (decide (a = c ∧ b = d ∧ e = g)) w := by
 have hfo : P.fieldsOf t = #[f1, f2, f3] := by simp [Program.fieldsOf, hf]
 rw [run_equalIn_struct w 9999 t _ _ (by rw [hfo]; exact hf) hs, hfo]
 have e1 : (Op.equalIn 9999 t1 (.int k1 a) (.int k1 c)).run P w = .ok (a == c) w := run_equalIn_int (P := P) w 9998 t1 k1 k1 a c u1.out
 have e2 : (Op.equalIn 9999 t2 (.int k2 b) (.int k2 d)).run P w = .ok (b == d) w := run_equalIn_int (P := P) w 9998 t2 k2 k2 b d u2.out
 have e3 : (Op.equalIn 9999 t3 (.int k3 e) (.int k3 g)).run P w = .ok (e == g) w := run_equalIn_int (P := P) w 9998 t3 k3 k3 e g u3.out
 have p1 : (part t1 #[.int k1 a, .int k2 b, .int k3 e] 0).run P w = .ok (.int k1 a) w := run_partInt (l := [.int k1 a, .int k2 b, .int k3 e])
 have p2 : (part t2 #[.int k1 a, .int k2 b, .int k3 e] 1).run P w = .ok (.int k2 b) w := run_partInt (l := [.int k1 a, .int k2 b, .int k3 e])
 have p3 : (part t3 #[.int k1 a, .int k2 b, .int k3 e] 2).run P w = .ok (.int k3 e) w := run_partInt (l := [.int k1 a, .int k2 b, .int k3 e])
 have p4 : (part t1 #[.int k1 c, .int k2 d, .int k3 g] 0).run P w = .ok (.int k1 c) w := run_partInt (l := [.int k1 c, .int k2 d, .int k3 g])
 have p5 : (part t2 #[.int k1 c, .int k2 d, .int k3 g] 1).run P w = .ok (.int k2 d) w := run_partInt (l := [.int k1 c, .int k2 d, .int k3 g])
 have p6 : (part t3 #[.int k1 c, .int k2 d, .int k3 g] 2).run P w = .ok (.int k3 g) w := run_partInt (l := [.int k1 c, .int k2 d, .int k3 g])
 simp only [Op.eqFields, h1.1, h1.2.1, h1.2.2, h2.1, h2.2.1, h2.2.2, h3.1, h3.2.1, h3.2.2, ne_eq, not_false_eq_true, if_true, Sem.run_bind, p1, p2, p3, p4, p5, p6, Result.andThen_ok, e1, e2, e3, Sem.run_ite]
 have f1' : (a == c) = decide (a = c) := beq_dec a c
 have f2' : (b == d) = decide (b = d) := beq_dec b d
 have f3' : (e == g) = decide (e = g) := beq_dec e g
 rw [f1', f2', f3']
 by_cases ha : a = c <;> by_cases hb : b = d <;> by_cases he : e = g <;> simp [ha, hb, he]
section
variable {P : Program} {w0 : World} {f : FuncId} {fn : Func} {c : Code} {n : Nat} {L : Chunk} {Φ : Value → Chunk → Prop} {Ψ : List PanicEntry → Chunk → Prop}
theorem Spec.enter7 {v0 v1 v2 v3 v4 v5 v6 : Value} (hf : P.funcs[f]? = some fn) (hb : fn.body = some c) (hn : fn.ntmps = n) (hle : 7 ≤ n) (h : CW P w0 none n c (bodyK P fn Φ Ψ) (upd (upd (upd (upd (upd (upd (upd und 0 v0) 1 v1) 2 v2) 3 v3) 4 v4) 5 v5) 6 v6) [] L) : Spec P w0 f [v0, v1, v2, v3, v4, v5, v6] L Φ Ψ :=
 Spec.enter hf hb hn hle (fun t => by rcases t with _ | _ | _ | _ | _ | _ | _ | t <;> simp [upd, und]) h
end
end Go.Pw

namespace Go.Pw.Or
open Go.Pw.Sc Go.Pw.Md
theorem free_set {l : List Td} {o o' : List Nat} (h : ∀ i, i ∈ o ↔ i ∈ o') (i : Nat) : freeP l o i = freeP l o' i := by
 have hc : ∀ j, o.contains j = o'.contains j := fun j => by
  rw [List.contains_eq_mem, List.contains_eq_mem]
  exact decide_eq_decide.2 (h j)
 unfold freeP
 cases l[i]? with
 | none => rfl
 | some x =>
  simp only [hc]
theorem some_any {α β : Type} (g : α → Option β) : ∀ l : List α, (l.findSome? g).isSome = l.any fun x => (g x).isSome
 | [] => rfl
 | x :: l => by
  rw [List.findSome?_cons, List.any_cons]
  cases hg : g x with
  | none => simp [some_any g l]
  | some b => simp
theorem srch_set {l : List Td} : ∀ (f : Nat) (m : Mod) (o o' : List Nat), (∀ i, i ∈ o ↔ i ∈ o') → o.length = o'.length → (srch l f m o).isSome = (srch l f m o').isSome
 | 0, _, _, _, _, _ => rfl
 | f + 1, m, o, o', h, hl => by
  rw [srch, srch, hl]
  by_cases hf : o'.length = l.length
  ·rw [if_pos hf, if_pos hf]; rfl
  ·rw [if_neg hf, if_neg hf, some_any, some_any]
   congr 1
   funext i
   rw [free_set h i]
   by_cases hc : (freeP l o' i && mayP l m i) = true
   ·rw [if_pos hc, if_pos hc]
    exact srch_set f _ _ _ (fun j => by simp [h j]) (by simp [hl])
   ·rw [if_neg hc, if_neg hc]
def NoWay (l : List Td) (s : Nat) (m : Mod) : Prop := ∀ o : List Nat, o.Nodup → setI o = s → srch l (l.length + 1 - o.length) m o = none
theorem same_len {o o' : List Nat} (h1 : o.Nodup) (h2 : o'.Nodup) (h : setI o = setI o') : (∀ i, i ∈ o ↔ i ∈ o') ∧ o.length = o'.length := by
 have hm := setI_inj h
 exact ⟨hm, ((List.perm_ext_iff_of_nodup h1 h2).2 hm).length_eq⟩
theorem noWay {l : List Td} {o : List Nat} {m : Mod} (ho : o.Nodup) (h : srch l (l.length + 1 - o.length) m o = none) : NoWay l (setI o) m := fun o' ho' hs => by
 obtain ⟨hm, hl⟩ := same_len ho' ho hs
 have := srch_set (l := l) (l.length + 1 - o'.length) m o' o hm hl
 rw [hl, h] at this
 rw [hl]
 cases hq : srch l (l.length + 1 - o.length) m o' with
 | none => rfl
 | some x => rw [hq] at this; cases this
def Tb (n : Nat) : Nat → Nat
 | 0 => 0
 | f + 1 => n * Tb n f + 1
theorem Tb_mono {n m : Nat} (h : n ≤ m) : ∀ f, Tb n f ≤ Tb m f
 | 0 => Nat.le_refl _
 | f + 1 => by
  have := Nat.mul_le_mul h (Tb_mono h f)
  unfold Tb; omega
theorem Tb_up (n : Nat) (hn : 1 ≤ n) : ∀ {f g : Nat}, f ≤ g → Tb n f ≤ Tb n g := by
 have step : ∀ f, Tb n f ≤ Tb n (f + 1) := fun f => by
  have : 1 * Tb n f ≤ n * Tb n f := Nat.mul_le_mul_right _ hn
  show Tb n f ≤ n * Tb n f + 1
  omega
 intro f g h
 induction h with
 | refl => exact Nat.le_refl _
 | step _ ih => exact Nat.le_trans ih (step _)
theorem Tb_10 {n f : Nat} (h : n ≤ 10) (hf : f ≤ 11) : Tb n f ≤ 11111111111 := by
 have h1 := Tb_mono h f
 have h2 := Tb_up 10 (by decide) hf
 have h3 : Tb 10 11 = 11111111111 := by decide
 omega
end Go.Pw.Or

namespace Go.Pw
section
variable {P : Program} {w0 : World} {rd : Option Nat} {n : Nat} {K : Post} {ρ : Env} {ds : List Deferred} {L R : Chunk} {l : List Oper} {ops : Array Oper} {ty : TypeId} {d : Nat} {pos : String} {after : Array Edge}
theorem RW.lookD {t kt et : TypeId} {x y : Operand} {k k' : IntKind} {j : Int} {m c : Nat} {es : List MapEntry} {z v : Value} {g : Option (Nat × Bool)} [hg : GdT ops ρ g] [ht : Und P t (.map kt et)] [hk : Und P kt (.int k')] [hz : Zer P et z] [hx : EvO ρ x (.map (some m))] [hy : EvO ρ y (.int k j)] [hin : InC R m (.map es.toArray c)] (hes : keysI k es)
  (hv : (findI es j).getD z = v) (next : RW P w0 rd n ops K l R (upd ρ d v) ds L) : RW P w0 rd n ops K (⟨some d, .lookup t x y false, ty, pos, after, g⟩ :: l) R ρ ds L := by
 have h := yl_lookup (P := P) (L := R) (ty := ty) ht hk hz hx hy hin hes
 rw [hv] at h
 exact RW.y h rfl next
theorem RW.aM {v : Nat → Value} {o : Obj} {op : Op} {g : Option (Nat × Bool)} [hg : GdT ops ρ g] [h : OpA P ρ L op ty v o] [hR : MemC R L] (next : ∀ b, RW P w0 rd n ops K l R (upd ρ d (v b)) ds ((b, o) :: L)) (he : isEff ⟨some d, op, ty, pos, after, g⟩ = true := by rfl) : RW P w0 rd n ops K (⟨some d, op, ty, pos, after, g⟩ :: l) R ρ ds L :=
 RW.eff hg.out he h.ef (fun v L' ⟨b, h1, h2⟩ => by subst h1 h2; exact ⟨R, fun _ h => h, fun p hp => List.mem_cons_of_mem _ (hR.out p hp), next b⟩) (fun _ _ h => h.elim)
end
end Go.Pw

namespace Go.Pw
class DelP (L N : Chunk) (L1 : outParam Chunk) : Prop where out : L.Perm (N ++ L1)
instance (priority := high) delPHere {N B : Chunk} : DelP (N ++ B) N B := ⟨List.Perm.refl _⟩
instance delPCons {L N L1 : Chunk} {p : Nat × Obj} [h : DelP L N L1] : DelP (p :: L) N (p :: L1) := ⟨(h.out.cons p).trans List.perm_middle.symm⟩
instance delPRight {A L N L1 : Chunk} [h : DelP L N L1] : DelP (A ++ L) N (A ++ L1) := ⟨(List.Perm.append_left A h.out).trans (by
 rw [← List.append_assoc, ← List.append_assoc]
 exact List.Perm.append_right L1 List.perm_append_comm)⟩
class PermC (L L' : Chunk) : Prop where out : L.Perm L'
instance (priority := high) permRefl {L : Chunk} : PermC L L := ⟨List.Perm.refl L⟩
instance permCons {L L' L1 : Chunk} {b : Nat} {o : Obj} [h1 : DelC L' b o L1] [h2 : PermC L L1] : PermC ((b, o) :: L) L' := ⟨by
 obtain ⟨A, B, rfl, rfl⟩ := h1.out
 exact (h2.out.cons _).trans List.perm_middle.symm⟩
instance permApp {N L L' L1 : Chunk} [h1 : DelP L' N L1] [h2 : PermC L L1] : PermC (N ++ L) L' := ⟨(List.Perm.append_left N h2.out).trans h1.out.symm⟩
instance permNil {L L' : Chunk} [h : PermC L L'] : PermC ([] ++ L) L' := ⟨h.out⟩
end Go.Pw

namespace Go.Pw
section
variable {P : Program} {w0 : World} {n : Nat} {K : Post} {ρ : Env} {ds : List Deferred} {L : Chunk}
def SeqV (P : Program) (fv : Value) (D : Chunk) (xs : List (List Value)) : Prop :=
 ∀ (yv : Value) (J : Nat → Chunk → Prop) (E : Chunk → Prop) (L : Chunk), Sng yv → J 0 L → (∀ L', E L' → MemC D L') →
  (∀ i L', J i L' → MemC D L' ∧ (i = xs.length → E L') ∧ ∀ h : i < xs.length, ∀ M, VP P yv xs[i] (M ++ L') (fun u L'' => ∃ L3, L'' = M ++ L3 ∧ ((u = .bool true ∧ J (i + 1) L3) ∨ (u = .bool false ∧ E L3))) noPanic) →
  VP P fv [yv] L (fun _ L' => E L') noPanic
theorem SeqV.to {fv : Value} {D D' : Chunk} {xs : List (List Value)} (h : SeqV P fv D xs) [hm : MemC D D'] : SeqV P fv D' xs :=
 fun yv J E L sy h0 hE hJ => h yv J E L sy h0 (fun L' h' => ⟨fun p hp => (hE L' h').out p (hm.out p hp)⟩) fun i L' hj => ⟨⟨fun p hp => (hJ i L' hj).1.out p (hm.out p hp)⟩, (hJ i L' hj).2⟩
theorem VP.fn {f : FuncId} {first cap : Array Value} {args : List Value} {Φ : Value → Chunk → Prop} {Ψ : List PanicEntry → Chunk → Prop} (h : VP P (.func (.func f) first cap) args L Φ Ψ) : Spec P w0 f (first.toList ++ args ++ cap.toList) L Φ Ψ := fun w hs => by
 rcases h w0 w hs with ⟨f', first', cap', e, _, hc⟩ | ⟨l, fn, tmps, as_, bo, e, _⟩
 ·cases e; exact hc
 ·cases e
theorem CW.rangeV {g : Operand} {ps : Array Tmp} {assign body : Code} {f : FuncId} {first cap : Array Value} [hx : EvO ρ g (.func (.func f) first cap)] [he : Entr P f]
  (h : ∀ lp D rec, IsRec n ρ ps assign body D rec →
   VP P (.func (.func f) first cap) [.func (.yield lp) #[] #[]] ((lp, rec .ready none) :: (D, .deferred (some [])) :: L) (fun _ L' => rangeK P w0 n K ρ ds lp D rec L') noPanic) :
  CW P w0 none n (.rangeFunc g ps assign body) K ρ ds L :=
 CW.rangeFunc fun lp D rec hrec => (VP.fn (h lp D rec hrec)).mono (fun _ _ h => h) (fun _ _ h => h.elim)
theorem SeqV.vp {fv : Value} {D : Chunk} {xs : List (List Value)} (h : SeqV P fv D xs) {yv : Value} [sy : Sng yv] (J : Nat → Chunk → Prop) (E : Chunk → Prop) (h0 : J 0 L) (hE : ∀ L', E L' → MemC D L')
  (hJ : ∀ i L', J i L' → MemC D L' ∧ (i = xs.length → E L') ∧ ∀ h : i < xs.length, ∀ M, VP P yv xs[i] (M ++ L') (fun u L'' => ∃ L3, L'' = M ++ L3 ∧ ((u = .bool true ∧ J (i + 1) L3) ∨ (u = .bool false ∧ E L3))) noPanic)
  {Φ : Value → Chunk → Prop} (hΦ : ∀ L' u, E L' → Φ u L') : VP P fv [yv] L Φ noPanic := (h yv J E L sy h0 hE hJ).mono (fun u L' h => hΦ L' u h) (fun _ _ h => h)
end
end Go.Pw

namespace Go.Pw.Or
open Go.Pw.Sc Go.Pw.Md
def rightP (l : List Td) : Mod → List Nat → List Nat → Bool
 | _, _, [] => true
 | m, d, i :: t => freeP l d i && mayP l m i && rightP l (nextP l m i) (d ++ [i]) t
theorem free_lt {l : List Td} {d : List Nat} {i : Nat} (h : freeP l d i = true) : i < l.length ∧ d.contains i = false := by
 unfold freeP at h
 cases hi : l[i]? with
 | none => rw [hi] at h; cases h
 | some x =>
  rw [hi] at h
  simp only [Bool.and_eq_true, Bool.not_eq_true'] at h
  exact ⟨(List.getElem?_eq_some_iff.1 hi).1, h.1⟩
theorem srch_right {l : List Td} : ∀ (f : Nat) (m : Mod) (o r : List Nat), srch l f m o = some r → ∃ t, r = o ++ t ∧ rightP l m o t = true ∧ r.length = l.length
 | 0, _, _, _, h => by cases h
 | f + 1, m, o, r, h => by
  rw [srch] at h
  by_cases hf : o.length = l.length
  ·rw [if_pos hf] at h
   cases h
   exact ⟨[], by simp, rfl, hf⟩
  ·rw [if_neg hf] at h
   obtain ⟨i, _, hi⟩ := List.exists_of_findSome?_eq_some h
   by_cases hc : (freeP l o i && mayP l m i) = true
   ·rw [if_pos hc] at hi
    obtain ⟨t, rfl, h2, h3⟩ := srch_right f _ _ _ hi
    refine ⟨i :: t, by simp, ?_, h3⟩
    rw [rightP, hc, h2]; rfl
   ·rw [if_neg hc] at hi; cases hi
theorem right_ok {l : List Td} : ∀ (t d : List Nat) (m : Mod), d.Nodup → (∀ i ∈ d, i < l.length) → rightP l m d t = true → (d ++ t).Nodup ∧ ∀ i ∈ d ++ t, i < l.length
 | [], d, _, h1, h2, _ => by simpa using ⟨h1, h2⟩
 | i :: t, d, m, h1, h2, h => by
  rw [rightP, Bool.and_eq_true, Bool.and_eq_true] at h
  obtain ⟨hi, hc⟩ := free_lt h.1.1
  have hn : i ∉ d := fun hm => by rw [show d.contains i = true by simpa using hm] at hc; cases hc
  have := right_ok t (d ++ [i]) _ (by
   rw [List.nodup_append]
   exact ⟨h1, by simp, fun a ha b hb => by rw [List.mem_singleton.1 hb]; exact fun e => hn (e ▸ ha)⟩) (fun j hj => by
   rcases List.mem_append.1 hj with hj | hj
   ·exact h2 j hj
   ·rw [List.mem_singleton.1 hj]; exact hi) h.2
  simpa using this
theorem right_set {l : List Td} : ∀ (t d d' : List Nat) (m : Mod), (∀ i, i ∈ d ↔ i ∈ d') → rightP l m d t = rightP l m d' t
 | [], _, _, _, _ => rfl
 | i :: t, d, d', m, h => by
  rw [rightP, rightP, free_set h i, right_set t (d ++ [i]) (d' ++ [i]) _ (fun j => by simp [h j])]
def still (l : List Td) (i : Nat) : Prop := ∃ x, l[i]? = some x ∧ x.op.kind = 5
theorem still_next {l : List Td} {i : Nat} (h : still l i) (m : Mod) : nextP l m i = m := by
 obtain ⟨x, hx, hk⟩ := h
 unfold nextP; rw [hx]
 have h : ∀ o, (Md.step m x.op o).1 = m := fun o => by
  unfold Md.step
  rw [hk]
  simp only [show ¬ (5 : Int) = 1 by decide, show ¬ (5 : Int) = 2 by decide, show ¬ (5 : Int) = 3 by decide, show ¬ (5 : Int) = 4 by decide, if_false, if_true]
  cases m.find x.op.ad <;> rfl
 simp only [after, Md.next]
 repeat' split
 all_goals first
  | exact h _
  | rfl
theorem right_swap {l : List Td} {a b : Nat} (ha : still l a) (hb : still l b) (hn : ∀ x y, l[a]? = some x → l[b]? = some y → ¬ aheadP x y) : ∀ (s t d : List Nat) (m : Mod), rightP l m d (s ++ a :: b :: t) = true → rightP l m d (s ++ b :: a :: t) = true
 | i :: s, t, d, m, h => by
  rw [List.cons_append, rightP, Bool.and_eq_true] at h ⊢
  exact ⟨h.1, right_swap ha hb hn s t _ _ h.2⟩
 | [], t, d, m, h => by
  simp only [List.nil_append, rightP, still_next ha, still_next hb, Bool.and_eq_true] at h ⊢
  obtain ⟨⟨h1, h2⟩, ⟨h3, h4⟩, h5⟩ := h
  obtain ⟨hal, hac⟩ := free_lt h1
  obtain ⟨hbl, hbc⟩ := free_lt h3
  have ha' := List.getElem?_eq_getElem hal
  have hb' := List.getElem?_eq_getElem hbl
  have hab := hn _ _ ha' hb'
  have f1 : freeP l d b = true := by
   unfold freeP at h3 ⊢
   rw [hb'] at h3 ⊢
   simp only [Bool.and_eq_true, List.all_eq_true] at h3 ⊢
   refine ⟨by have := h3.1; simp at this ⊢; exact this.1, fun k hk => ?_⟩
   have h6 := h3.2 k hk
   have hk' := List.mem_range.1 hk
   rw [List.getElem?_eq_getElem hk'] at h6 ⊢
   simp only at h6 ⊢
   by_cases hka : k = a
   ·subst hka
    simp [hab]
   ·simpa [hka] using h6
  have f2 : freeP l (d ++ [b]) a = true := by
   unfold freeP at h1 ⊢
   rw [ha'] at h1 ⊢
   simp only [Bool.and_eq_true, List.all_eq_true] at h1 ⊢
   have hne : a ≠ b := by
    intro e
    subst e
    simp at hbc
   refine ⟨by have := h1.1; simp at this ⊢; exact ⟨this, hne⟩, fun k hk => ?_⟩
   have h6 := h1.2 k hk
   have hk' := List.mem_range.1 hk
   rw [List.getElem?_eq_getElem hk'] at h6 ⊢
   simp only [Bool.or_eq_true] at h6 ⊢
   rcases h6 with h6 | h6
   ·exact .inl h6
   ·right
    simp at h6 ⊢
    exact .inl h6
  refine ⟨⟨f1, h4⟩, ⟨f2, h2⟩, ?_⟩
  rw [← h5]
  exact right_set t _ _ _ (fun j => by simp [or_comm, or_left_comm])
end Go.Pw.Or

namespace Go.Pw.Or
theorem nodup_le : ∀ (n : Nat) (o : List Nat), o.Nodup → (∀ i ∈ o, i < n) → o.length ≤ n
 | 0, [], _, _ => Nat.le_refl _
 | 0, x :: _, _, h => absurd (h x (List.mem_cons_self ..)) (by omega)
 | n + 1, o, h1, h2 => by
  by_cases hn : n ∈ o
  ·have hp := List.perm_cons_erase hn
   have := nodup_le n (o.erase n) (h1.erase n) (fun i hi => by
    have h3 := h2 i (List.mem_of_mem_erase hi)
    have h4 : i ≠ n := fun e => by subst e; exact (List.Nodup.not_mem_erase h1) hi
    omega)
   have := hp.length_eq
   rw [List.length_cons] at this
   omega
  ·have := nodup_le n o h1 (fun i hi => by
    have h3 := h2 i hi
    have h4 : i ≠ n := fun e => hn (e ▸ hi)
    omega)
   omega
theorem perm_range : ∀ {n : Nat} {o : List Nat}, o.Nodup → (∀ i ∈ o, i < n) → o.length = n → o.Perm (List.range n)
 | 0, [], _, _, _ => List.Perm.refl _
 | 0, x :: _, _, h, _ => absurd (h x (List.mem_cons_self ..)) (by omega)
 | n + 1, o, h1, h2, h3 => by
  have hn : n ∈ o := Classical.byContradiction fun hn => by
   have := nodup_le n o h1 (fun i hi => by
    have h3 := h2 i hi
    have h4 : i ≠ n := fun e => hn (e ▸ hi)
    omega)
   omega
  have hp := List.perm_cons_erase hn
  have hl := hp.length_eq
  rw [List.length_cons] at hl
  have := perm_range (n := n) (o := o.erase n) (h1.erase n) (fun i hi => by
   have h3 := h2 i (List.mem_of_mem_erase hi)
   have h4 : i ≠ n := fun e => by subst e; exact (List.Nodup.not_mem_erase h1) hi
   omega) (by omega)
  rw [List.range_succ]
  exact hp.trans ((this.cons n).trans (List.perm_append_comm (l₁ := [n]) (l₂ := List.range n)))
theorem sorted_range {o : List Nat} {n : Nat} (h : o.Perm (List.range n)) : ((o.map fun (k : Nat) => (k : Int)).mergeSort fun x y => decide (x ≤ y)) = (List.range n).map fun (k : Nat) => (k : Int) := by
 have hpm := List.mergeSort_perm (o.map fun (k : Nat) => (k : Int)) fun x y => decide (x ≤ y)
 have hpw := List.pairwise_mergeSort (le := fun (x y : Int) => decide (x ≤ y)) (fun a b c h1 h2 => by simp only [decide_eq_true_eq] at *; omega) (fun a b => by simp only [Bool.or_eq_true, decide_eq_true_eq]; omega) (o.map fun (k : Nat) => (k : Int))
 refine List.Perm.eq_of_pairwise (le := fun a b : Int => a ≤ b) (fun a b _ _ h1 h2 => by omega) (hpw.imp fun h => by simpa using h) ?_ (hpm.trans (h.map _))
 rw [List.pairwise_map]
 exact List.pairwise_lt_range.imp fun h => by omega
end Go.Pw.Or

namespace Go.Pw.Or
open Go Go.Pw
class NthO' (k n : Nat) : Prop where out : k < n
def flagsL (n : Nat) (o : List Nat) : List Value := (List.range n).map fun k => .bool (o.contains k)
instance flagNth {n : Nat} {o : List Nat} {k : Nat} [h : NthO' k n] : NthL (flagsL n o) k (.bool (o.contains k)) := ⟨by
 unfold flagsL
 rw [List.getElem?_map, List.getElem?_range h.out]; rfl⟩
end Go.Pw.Or
