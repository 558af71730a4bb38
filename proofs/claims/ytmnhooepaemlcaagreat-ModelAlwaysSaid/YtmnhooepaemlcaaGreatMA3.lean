/-
  For every input the law ModelAlways returns true, and each argument reads behind the call as it read before. This text holds lemmas for it (part 3).
  Conditions: none.
-/
import Derived.Test.YtmnhooepaemlcaaGreatMA2
import Derived.SizedLaws
import Derived.Test.YtmnhooepaemlcaaGreatRows
set_option linter.all false
namespace Go.Pw.Md

theorem charge_without {m : Mod} (hm : WF m) {p : Pc} (hp : p ∈ m.L) : ((m.L.filter fun q => decide (q.ad ≠ p.ad)).map Pc.room).sum = m.charge - p.room := by
  have key : ∀ (l : List Pc), (l.Pairwise fun p q => p.ad + p.room ≤ q.ad) → (∀ p ∈ l, PcOk p) → p ∈ l → ((l.filter fun q => decide (q.ad ≠ p.ad)).map Pc.room).sum = (l.map Pc.room).sum - p.room := by
    intro l
    induction l with
    | nil => intro _ _ h; cases h
    | cons x l ih =>
      intro hl hok hp
      rw [List.pairwise_cons] at hl
      have rx := (hok x (List.mem_cons_self ..)).room
      rcases List.mem_cons.1 hp with rfl | hp1
      · rw [List.filter_cons_of_neg (by simp), List.filter_eq_self.2]
        · simp only [List.map_cons, List.sum_cons]; omega
        · intro q hq
          have := hl.1 q hq
          simp only [decide_eq_true_eq]; omega
      · have := hl.1 p hp1
        rw [List.filter_cons_of_pos (by simp only [decide_eq_true_eq]; omega)]
        have := ih hl.2 (fun p hp => hok p (List.mem_cons_of_mem _ hp)) hp1
        simp only [List.map_cons, List.sum_cons]; omega
  exact key m.L hm.apart hm.ok hp

theorem access_wf {m : Mod} (hm : WF m) {kind ad many : Int} {o : OutM} {bs : List Int} (hb : ∀ x ∈ bs, 0 ≤ x ∧ x ≤ 255) (h : (access m kind ad o bs many).2 = true) : WF (access m kind ad o bs many).1 := by
  unfold access at *
  repeat' split
  all_goals first | exact hm | skip
  exact map_wf hm fun p hp => ⟨over_ok (hm.ok p hp) hb, rfl, rfl⟩

theorem realloc_wf {m : Mod} (hm : WF m) {x : OpM} {o : OutM} (ho : 0 ≤ o.ad) (h : (realloc m x o).2 = true) : WF (realloc m x o).1 := by
  unfold realloc at *
  cases hf : m.find x.ad with
  | none => simp only; exact hm
  | some p =>
    obtain ⟨hp, hpa⟩ := find_some hf
    have okp := hm.ok p hp
    rw [hf] at h
    simp only at h ⊢
    cases hn : needOf x.size 1 with
    | none => simp only; exact hm
    | some nd =>
      rw [hn] at h
      simp only at h ⊢
      obtain ⟨c1, c2, c3⟩ := needOf_charge hn
      split
      · rename_i hg
        split
        · refine map_wf hm fun q hq => ?_
          have oq := hm.ok q hq
          split
          · rename_i he
            refine ⟨⟨oq.ad, oq.room, oq.fin, ?_, ?_, oq.len, oq.byt⟩, rfl, rfl⟩
            · simp only; omega
            · have := find_of hm hq
              rw [he, find_of hm hp] at this
              cases this
              simp only; omega
          · exact ⟨oq, rfl, rfl⟩
        · exact hm
      · rename_i hg
        rw [if_neg hg] at h
        have hlen : ((p.b.take (min p.size (max 1 x.size)).toNat).length : Int) ≤ nd.charge := by
          rw [List.length_take]; omega
        have hby : ∀ z ∈ p.b.take (min p.size (max 1 x.size)).toNat, -1 ≤ z ∧ z ≤ 255 := fun z hz => okp.byt z (List.mem_of_mem_take hz)
        have hh := handed_wf hm (x := nd) (size := x.size) (mult := 1) (less := p.room) (o := o) (b := p.b.take (min p.size (max 1 x.size)).toNat) ho c1 hlen hby
        generalize hr : handed m nd x.size 1 p.room o (p.b.take (min p.size (max 1 x.size)).toNat) = r at h hh ⊢
        by_cases he : r.2 = true ∧ o.errno = 0
        · simp only [if_pos he] at h ⊢
          obtain ⟨e1, e2, e3, e4⟩ := (hh he.1).2 he.2
          rw [e1]
          generalize hq : piece o.ad x.size nd.charge (p.b.take (min p.size (max 1 x.size)).toNat) = q at e2 ⊢
          have hqa : q.ad = o.ad ∧ q.room = nd.charge := by subst hq; exact ⟨rfl, rfl⟩
          have hfit := e3.2.2.2.2
          have hne : q.ad ≠ p.ad := fun e => by
            have := hfit p hp
            have := e2.room
            have := okp.room
            omega
          refine ⟨hm.slot0, hm.slot1, hm.quota0, hm.quota1, ?_, fun z hz => ?_, ?_⟩
          · exact (ins_apart hm.apart hm.ok (fun z hz => by rw [hqa.1, hqa.2]; exact hfit z hz) e2.room).filter _
          · rcases List.mem_cons.1 ((ins_perm q m.L).mem_iff.1 (List.mem_filter.1 hz).1) with rfl | hz
            · exact e2
            · exact hm.ok z hz
          · have h1 := sum_perm ((ins_perm q m.L).filter fun z => decide (z.ad ≠ p.ad))
            have h2 := charge_without hm hp
            rw [List.filter_cons_of_pos (by simpa using hne)] at h1
            simp only [List.map_cons, List.sum_cons] at h1
            unfold Mod.charge Mod.without at *
            simp only at *
            omega
        · simp only [if_neg he] at h ⊢
          have : o.errno ≠ 0 := fun e => he ⟨h, e⟩
          rw [(hh h).1 this]
          exact hm

theorem handed_wf' {m : Mod} (hm : WF m) {x : NeedM} {size mult : Int} {o : OutM} {b : List Int} (h0 : 0 ≤ o.ad) (hs : max 1 size ≤ x.charge) (hb : (b.length : Int) ≤ x.charge) (hy : ∀ z ∈ b, -1 ≤ z ∧ z ≤ 255)
    (h : (handed m x size mult 0 o b).2 = true) : WF (handed m x size mult 0 o b).1 := by
  have hh := handed_wf (mult := mult) (less := 0) hm h0 hs hb hy h
  by_cases he : o.errno = 0
  · obtain ⟨e1, e2, e3, e4⟩ := hh.2 he
    rw [e1]
    exact ins_wf hm e2 (fun q hq => e3.2.2.2.2 q hq) (by
      have : (piece o.ad size x.charge b).room = x.charge := rfl
      omega)
  · rw [hh.1 he]; exact hm

theorem step_wf {m : Mod} (hm : WF m) {x : OpM} {o : OutM} (ho : 0 ≤ o.ad) (hx : ∀ z ∈ x.bytes, 0 ≤ z ∧ z ≤ 255) (hob : ∀ z ∈ o.bytes, 0 ≤ z ∧ z ≤ 255) (h : (step m x o).2 = true) : WF (step m x o).1 := by
  unfold step at *
  split
  · rename_i hk
    rw [if_pos hk] at h
    cases hn : needOf x.size x.mult with
    | none => exact hm
    | some nd =>
      rw [hn] at h
      obtain ⟨c1, c2, c3⟩ := needOf_charge hn
      exact handed_wf' hm ho c1 (by simp only [List.length_nil]; omega) (fun _ h => (by cases h)) h
  · rename_i hk
    rw [if_neg hk] at h
    split
    · rename_i hk
      rw [if_pos hk] at h
      cases ht : total x.many x.size with
      | none => exact hm
      | some t =>
        rw [ht] at h
        simp only at h ⊢
        cases hn : needOf t 1 with
        | none => exact hm
        | some nd =>
          rw [hn] at h
          obtain ⟨c1, c2, c3⟩ := needOf_charge hn
          exact handed_wf' hm ho c1 (by simp only [List.length_replicate]; omega) (fun z hz => by rw [List.mem_replicate] at hz; omega) h
    · rename_i hk
      rw [if_neg hk] at h
      split
      · rename_i hk
        cases hf : m.find x.ad with
        | none => exact hm
        | some p =>
          simp only
          split
          · exact without_wf hm _
          · exact hm
      · rename_i hk
        rw [if_neg hk] at h
        split
        · rename_i hk
          rw [if_pos hk] at h
          exact realloc_wf hm ho h
        · rename_i hk
          rw [if_neg hk] at h
          split
          · cases hf : m.find x.ad with
            | none => exact hm
            | some p => exact hm
          · rename_i hk
            rw [if_neg hk] at h
            split
            · rename_i hk
              rw [if_pos hk] at h
              exact access_wf hm hob h
            · rename_i hk
              rw [if_neg hk] at h
              split
              · exact hm
              · rename_i hb
                rw [if_neg hb] at h
                exact access_wf hm hx h
theorem start_wf {slot quota : Int} (h : 0 ≤ slot ∧ slot < 4 ∧ 0 ≤ quota ∧ quota ≤ 1073741824) : WF ⟨slot, quota, []⟩ :=
  ⟨h.1, h.2.1, h.2.2.1, h.2.2.2, .nil, fun _ h => (by cases h), by simpa [Mod.charge] using h.2.2.1⟩

/-- A byte, as it is told: a number, known or not, in a piece or not. -/
def byteAt (m : Mod) (a : Int) : Int × Bool × Bool :=
  match m.inn a with
  | none => (0, false, false)
  | some p => if p.b.getD (a - p.ad).toNat 0 = -1 then (0, false, true) else (p.b.getD (a - p.ad).toNat 0, true, true)

def okO : OutM := ⟨0, 0, 0, []⟩
def errO (e : Int) : OutM := ⟨e, 0, 0, []⟩
theorem handed_some (m : Mod) (x : NeedM) (size mult less : Int) (b : List Int) : (handed m x size mult less (errO 301) b).2 = true ∨ (handed m x size mult less (errO 171) b).2 = true := by
  by_cases h : m.quota < m.charge - less + x.charge
  · left; simp [handed, h, errO, bareO, noneO]
  · right; simp [handed, h, errO, bareO, noneO]
/-- The bytes that a load may tell. -/
def toldB (m : Mod) (ad many : Int) : List Int := (List.range many.toNat).map fun k : Nat => (byteAt m (ad + (k : Int))).1
theorem agrees_told {m : Mod} (hm : WF m) {ad many : Int} {p : Pc} (hp : p ∈ m.L) : agrees ad (toldB m ad many) p := by
  intro d hd h1 h2
  have okp := hm.ok p hp
  have hl := okp.len
  simp only [toldB, List.length_map, List.length_range] at h2
  have hin : m.inn (p.ad + d) = some p := inn_of hm hp (by omega)
  by_cases hk : p.b.getD d 0 = -1
  · exact .inl hk
  · right
    have hi : (p.ad + (d : Int) - ad).toNat < many.toNat := by omega
    have e1 : ad + (((p.ad + (d : Int) - ad).toNat : Nat) : Int) = p.ad + d := by omega
    have e2 : (p.ad + (d : Int) - p.ad).toNat = d := by omega
    rw [toldB, List.getD_eq_getElem?_getD (l := List.map _ _), List.getElem?_map, List.getElem?_range hi]
    simp only [Option.map_some, Option.getD_some, e1, byteAt, hin, e2, if_neg hk]
/-- Some answer may be. -/
theorem always {m : Mod} (hm : WF m) {x : OpM} (hk : 1 ≤ x.kind ∧ x.kind ≤ 7) (hmany : 0 ≤ x.many) (hbig : x.kind = 6 → x.many ≤ 300 ∨ 16777216 < x.many) :
    (∃ o ∈ [okO, errO 2, errO 4, errO 320, errO 301, errO 171, ⟨0, x.ad, 0, []⟩], (step m x o).2 = true) ∨ (∃ p ∈ m.L, (step m x ⟨0, 0, p.room, []⟩).2 = true) ∨ (x.kind = 6 ∧ x.many ≤ 300 ∧ (step m x ⟨0, 0, 0, toldB m x.ad x.many⟩).2 = true) := by
  have mem : ∀ {o : OutM}, o ∈ [okO, errO 2, errO 4, errO 320, errO 301, errO 171, ⟨0, x.ad, 0, []⟩] → (step m x o).2 = true → (∃ o ∈ [okO, errO 2, errO 4, errO 320, errO 301, errO 171, ⟨0, x.ad, 0, []⟩], (step m x o).2 = true) := fun h1 h2 => ⟨_, h1, h2⟩
  have hand : ∀ (nd : NeedM) (size mult less : Int) (b : List Int), (∀ o ∈ [errO 301, errO 171], (handed m nd size mult less o b).2 = true → (step m x o).2 = true) → (∃ o ∈ [okO, errO 2, errO 4, errO 320, errO 301, errO 171, ⟨0, x.ad, 0, []⟩], (step m x o).2 = true) := fun nd size mult less b h => by
    rcases handed_some m nd size mult less b with h1 | h1
    · exact mem (by simp) (h _ (by simp) h1)
    · exact mem (by simp) (h _ (by simp) h1)
  by_cases h1 : x.kind = 1
  · left
    cases hn : needOf x.size x.mult with
    | none => exact mem (o := errO 2) (by simp) (by simp [step, h1, hn, errO, bareO, noneO])
    | some nd => exact hand nd x.size x.mult 0 [] fun o _ h => by simp only [step, h1, hn, if_true]; exact h
  by_cases h2 : x.kind = 2
  · left
    cases ht : total x.many x.size with
    | none => exact mem (o := errO 2) (by simp) (by simp [step, h2, ht, errO, bareO, noneO])
    | some t =>
      have : t ≤ 262144 := by
        unfold total at ht
        split at ht
        · cases ht
        · cases ht; omega
      obtain ⟨nd, hn⟩ := needOf_one this
      exact hand nd t 1 0 (List.replicate nd.charge.toNat 0) fun o _ h => by
        simp only [step, h2, ht, hn]; exact h
  by_cases h3 : x.kind = 3
  · left
    cases hf : m.find x.ad with
    | none => exact mem (o := errO 320) (by simp) (by simp [step, h3, hf, errO, bareO, noneO])
    | some p => exact mem (o := okO) (by simp) (by simp [step, h3, hf, okO, bareO, noneO])
  by_cases h4 : x.kind = 4
  · left
    cases hf : m.find x.ad with
    | none => exact mem (o := errO 320) (by simp) (by simp [step, h4, realloc, hf, errO, bareO, noneO])
    | some p =>
      obtain ⟨hp, hpa⟩ := find_some hf
      cases hn : needOf x.size 1 with
      | none => exact mem (o := errO 2) (by simp) (by simp [step, h4, realloc, hf, hn, errO, bareO, noneO])
      | some nd =>
        by_cases hg : nd.small = false ∧ (site (p.ad / 256)).1 = 3 ∧ p.room = nd.charge
        · exact mem (o := ⟨0, x.ad, 0, []⟩) (by simp) (by simp only [step, h4, realloc, hf, hn, if_pos hg]; simp [hpa])
        · refine hand nd x.size 1 p.room (p.b.take (min p.size (max 1 x.size)).toNat) fun o ho h => ?_
          have hoe : ¬ (o.errno = 0) := by
            simp only [List.mem_cons, List.not_mem_nil, or_false] at ho
            rcases ho with rfl | rfl <;> simp [errO]
          simp only [step, h4, realloc, hf, hn, if_neg hg]
          have e : ¬ (((handed m nd x.size 1 p.room o (p.b.take (min p.size (max 1 x.size)).toNat)).2 = true) ∧ o.errno = 0) := fun h => hoe h.2
          simp only [if_neg e]
          exact h
  by_cases h5 : x.kind = 5
  · cases hf : m.find x.ad with
    | none => exact .inl (mem (o := errO 320) (by simp) (by simp [step, h5, hf, errO, bareO, noneO]))
    | some p =>
      obtain ⟨hp, hpa⟩ := find_some hf
      exact .inr (.inl ⟨p, hp, by simp [step, h5, hf]⟩)
  by_cases h6 : x.kind = 6
  · by_cases hr : (reach m x.ad x.many).1 = 0
    · have hb : x.many ≤ 300 := by
        rcases hbig h6 with h | h
        · exact h
        · unfold reach at hr
          rw [if_pos (.inr h)] at hr
          cases hr
      refine .inr (.inr ⟨h6, hb, ?_⟩)
      have hl : ((toldB m x.ad x.many).length : Int) = x.many := by simp [toldB]; omega
      simp only [step, h6, access, hr]
      simp only [ne_eq, not_true_eq_false, if_false, false_or, hl, show ¬ ((6 : Int) = 7) by decide]
      rw [if_pos fun p hp => agrees_told hm hp]
      simp
    · have hv : (reach m x.ad x.many).1 = 2 ∨ (reach m x.ad x.many).1 = 4 := by
        unfold reach at *
        repeat' split
        all_goals simp_all
      left
      rcases hv with hv | hv
      · exact mem (o := errO 2) (by simp) (by simp [step, h6, access, hv, errO, bareO, noneO])
      · exact mem (o := errO 4) (by simp) (by simp [step, h6, access, hv, errO, bareO, noneO])
  · have h7 : x.kind = 7 := by omega
    left
    by_cases hr : (reach m x.ad x.bytes.length).1 = 0
    · refine mem (o := okO) (by simp) ?_
      simp [step, h7, access, hr, okO]
    · have hv : (reach m x.ad x.bytes.length).1 = 2 ∨ (reach m x.ad x.bytes.length).1 = 4 := by
        unfold reach at *
        repeat' split
        all_goals simp_all
      rcases hv with hv | hv
      · exact mem (o := errO 2) (by simp) (by simp [step, h7, access, hv, errO, bareO, noneO])
      · exact mem (o := errO 4) (by simp) (by simp [step, h7, access, hv, errO, bareO, noneO])
end Go.Pw.Md

namespace Go.Pw.Md
def Keeps (m : Mod) (m' : Mod) : Prop := m'.slot = m.slot ∧ m'.quota = m.quota
theorem Keeps.rfl (m : Mod) : Keeps m m := ⟨_root_.rfl, _root_.rfl⟩
theorem handed_keeps (m : Mod) (x : NeedM) (size mult less : Int) (o : OutM) (b : List Int) : Keeps m (handed m x size mult less o b).1 := by
  unfold handed
  split
  · exact .rfl m
  · split
    · exact .rfl m
    · split
      · exact ⟨rfl, rfl⟩
      · exact .rfl m
theorem access_keeps (m : Mod) (kind ad : Int) (o : OutM) (bs : List Int) (many : Int) : Keeps m (access m kind ad o bs many).1 := by
  unfold access
  split
  · exact .rfl m
  · split
    · exact .rfl m
    · split
      · exact .rfl m
      · split
        · exact ⟨rfl, rfl⟩
        · exact .rfl m
theorem realloc_keeps (m : Mod) (x : OpM) (o : OutM) : Keeps m (realloc m x o).1 := by
  unfold realloc
  split
  · exact .rfl m
  · split
    · exact .rfl m
    · split
      · split
        · exact ⟨rfl, rfl⟩
        · exact .rfl m
      · simp only
        split
        · exact ⟨(handed_keeps ..).1, (handed_keeps ..).2⟩
        · exact handed_keeps ..
theorem step_keeps (m : Mod) (x : OpM) (o : OutM) : Keeps m (step m x o).1 := by
  unfold step
  repeat' split
  all_goals first
    | exact .rfl m
    | exact handed_keeps ..
    | exact access_keeps ..
    | exact realloc_keeps ..
    | exact ⟨rfl, rfl⟩
/-- With what is told of a kind that is none. -/
def next (m : Mod) (x : OpM) (o : OutM) : Mod × Bool := if 1 ≤ x.kind ∧ x.kind ≤ 7 then step m x o else (m, false)
def nextE (x : OpM) : Int := if 1 ≤ x.kind ∧ x.kind ≤ 7 then 0 else 2
theorem next_keeps (m : Mod) (x : OpM) (o : OutM) : Keeps m (next m x o).1 := by
  unfold next
  split
  · exact step_keeps ..
  · exact .rfl m
theorem next_wf {m : Mod} (hm : WF m) {x : OpM} {o : OutM} (ho : 0 ≤ o.ad) (hx : ∀ z ∈ x.bytes, 0 ≤ z ∧ z ≤ 255) (hob : ∀ z ∈ o.bytes, 0 ≤ z ∧ z ≤ 255) (h : (next m x o).2 = true) : WF (next m x o).1 := by
  unfold next at *
  split
  · rename_i hk
    rw [if_pos hk] at h
    exact step_wf hm ho hx hob h
  · exact hm
/-- The model when an answer was told. -/
def after (m : Mod) (x : OpM) (o : OutM) : Mod := if (next m x o).2 then (next m x o).1 else m
theorem after_keeps (m : Mod) (x : OpM) (o : OutM) : Keeps m (after m x o) := by
  unfold after
  split
  · exact next_keeps ..
  · exact .rfl m
theorem after_wf {m : Mod} (hm : WF m) {x : OpM} {o : OutM} (ho : 0 ≤ o.ad) (hx : ∀ z ∈ x.bytes, 0 ≤ z ∧ z ≤ 255) (hob : ∀ z ∈ o.bytes, 0 ≤ z ∧ z ≤ 255) : WF (after m x o) := by
  unfold after
  split
  · rename_i h
    exact next_wf hm ho hx hob h
  · exact hm
end Go.Pw.Md

namespace Go.Pw.Md
open Go.Pw.Sc

/-- A row of things, so many cells each. -/
def LAt {α : Type} (s : Nat) (R : List Value → α → Prop) : List Value → List α → Prop
  | xs, [] => xs = []
  | xs, a :: ags => ∃ c r, xs = c ++ r ∧ c.length = s ∧ R c a ∧ LAt s R r ags
section
variable {α : Type} {s : Nat} {R R' : List Value → α → Prop}
theorem LAt.mono (hm : ∀ c a, R c a → R' c a) : ∀ {xs : List Value} {ags : List α}, LAt s R xs ags → LAt s R' xs ags
  | _, [], h => h
  | _, _ :: _, ⟨c, r, e, h0, h1, h2⟩ => ⟨c, r, e, h0, hm _ _ h1, LAt.mono hm h2⟩
theorem LAt.length : ∀ {xs : List Value} {ags : List α}, LAt s R xs ags → xs.length = ags.length * s
  | xs, [], h => by have : xs = [] := h; simp [this]
  | _, t :: ts, ⟨c, r, e, h0, h1, h2⟩ => by rw [e, List.length_append, h0, LAt.length h2, List.length_cons, Nat.add_mul]; omega
theorem LAt.append : ∀ {xs ys : List Value} {ags bs : List α}, LAt s R xs ags → LAt s R ys bs → LAt s R (xs ++ ys) (ags ++ bs)
  | xs, ys, [], bs, h, h1 => by have : xs = [] := h; rw [this]; exact h1
  | _, ys, a :: ags, bs, ⟨c, r, e, h0, h1, h2⟩, h3 => ⟨c, r ++ ys, by rw [e, List.append_assoc], h0, h1, LAt.append h2 h3⟩
theorem LAt.one {c : List Value} {a : α} (h0 : c.length = s) (h : R c a) : LAt s R c [a] := ⟨c, [], by simp, h0, h, rfl⟩
theorem LAt.get : ∀ {xs : List Value} {ags : List α} (i : Nat) (hi : i < ags.length), LAt s R xs ags → R ((xs.drop (i * s)).take s) ags[i]
  | _, _ :: _, 0, _, ⟨c, r, e, h0, h1, h2⟩ => by
    rw [e, Nat.zero_mul, List.drop_zero, List.take_append_of_le_length (by omega), List.take_of_length_le (by omega)]
    exact h1
  | _, _ :: ts, i + 1, hi, ⟨c, r, e, h0, h1, h2⟩ => by
    have h3 := LAt.get i (by simpa using hi) h2
    have e1 : (c ++ r).drop ((i + 1) * s) = r.drop (i * s) := by
      rw [show (i + 1) * s = c.length + i * s by rw [h0, Nat.add_mul]; omega, ← List.drop_drop, List.drop_left]
    rw [e, e1]
    exact h3
end
/-- A slice of such. -/
structure LS {α : Type} (s : Nat) (R : Chunk → List Value → α → Prop) (L : Chunk) (v : Value) (ags : List α) : Prop where
  rd : ∃ xs, Rd L s v ags.length xs ∧ LAt s (R L) xs ags
  len : (ags.length : Int) ≤ 9223372036854775807
section
variable {α : Type} {s : Nat} {R : Chunk → List Value → α → Prop} {L L' : Chunk} {v : Value} {ags : List α}
theorem LS.to (h : LS s R L v ags) [hm : MemC L L'] (hR : ∀ c a, R L c a → R L' c a) : LS s R L' v ags := ⟨let ⟨xs, a, b⟩ := h.rd; ⟨xs, a.to, b.mono hR⟩, h.len⟩
theorem LS.slice (h : LS s R L v ags) : ∃ a c, v = .slice a ags.length c := let ⟨_, a, _⟩ := h.rd; let ⟨b, c, h, _⟩ := a.isSlice; ⟨b, c, h⟩
theorem LS.sng (h : LS s R L v ags) : Sng v := by obtain ⟨a, c, rfl⟩ := h.slice; infer_instance
theorem LS.open (h : LS s R L v ags) (hn : ags.length ≠ 0) :
    ∃ b k cap l e fr, v = .slice (some ⟨b, k, none⟩) ags.length cap ∧ InC L b (.cells (List.toArray l) e fr) ∧ ags.length ≤ cap ∧ ∀ i (hi : i < ags.length), ∃ c, CutL l (k + i * s) s c ∧ R L c ags[i] := by
  obtain ⟨xs, hr, hl⟩ := h.rd
  obtain ⟨b, k, cap, l, e, fr, h1, h2, h3, h4⟩ := hr.open hn
  exact ⟨b, k, cap, l, e, fr, h1, h2, h3, fun i hi => ⟨_, h4 i hi, hl.get i hi⟩⟩
end
theorem cutSub {l c : List Value} {k n : Nat} (h : CutL l k n c) (a m : Nat) (ham : a + m ≤ n) : CutL l (k + a) m ((c.drop a).take m) := ⟨by
  have := h.out.1; omega, by
  rw [← h.out.2]
  simp only [List.drop_take, List.take_take, List.drop_drop]
  congr 1
  omega⟩

structure ActM where
  op : OpM
  out : OutM
  ask : Bool
structure OpR0 (x : OpM) : Prop where
  kind : inR .i64 x.kind
  ad : inR .u32 x.ad
  size : inR .u64 x.size
  mult : inR .u64 x.mult
  many : inR .u64 x.many
structure OutR0 (o : OutM) : Prop where
  errno : inR .i64 o.errno
  ad : inR .u32 o.ad
  n : inR .i64 o.n
@[reducible] def opC (x : OpM) (vx : Value) : List Value := [.int .i64 x.kind, .int .u32 x.ad, .int .u64 x.size, .int .u64 x.mult, .int .u64 x.many, vx]
@[reducible] def outC (o : OutM) (vb : Value) : List Value := [.int .i64 o.errno, .int .u32 o.ad, .int .i64 o.n, vb]
def ActAt (L : Chunk) (c : List Value) (a : ActM) : Prop := ∃ vx vb, c = opC a.op vx ++ outC a.out vb ++ [.bool a.ask] ∧ BS L vx a.op.bytes ∧ BS L vb a.out.bytes ∧ OpR0 a.op ∧ OutR0 a.out
def OutAt (L : Chunk) (c : List Value) (o : OutM) : Prop := ∃ vb, c = outC o vb ∧ BS L vb o.bytes ∧ OutR0 o
theorem ActAt.to {L L' : Chunk} [hm : MemC L L'] (c : List Value) (a : ActM) (h : ActAt L c a) : ActAt L' c a := let ⟨vx, vb, a, b, c, d⟩ := h; ⟨vx, vb, a, b.to, c.to, d⟩
theorem OutAt.to {L L' : Chunk} [hm : MemC L L'] (c : List Value) (a : OutM) (h : OutAt L c a) : OutAt L' c a := let ⟨vb, a, b, c⟩ := h; ⟨vb, a, b.to, c⟩
abbrev AS (L : Chunk) (v : Value) (ags : List ActM) : Prop := LS 11 ActAt L v ags
theorem AS.to' {L L' : Chunk} {v : Value} {ags : List ActM} (h : AS L v ags) [hm : MemC L L'] : AS L' v ags := LS.to h (fun c a h => ActAt.to c a h)
end Go.Pw.Md

namespace Go.Pw.Md
open Go.ChangeShapes Go.WideShapes Go.Pw.Sc
section
variable {H : Type} {enc : TypeId × Value → H} {P : Program} {w : World} {base : Nat} {spare : Nat → Bool} {held : Bool}
theorem LS.nil {α : Type} {s : Nat} {R : Chunk → List Value → α → Prop} {L : Chunk} : LS s R L (.slice none 0 0) [] := ⟨⟨[], ⟨by simp, .inl ⟨⟨_, _, rfl⟩, rfl⟩⟩, rfl⟩, by simp⟩
theorem ls_of_trod {α : Type} [Inhabited α] {s : Nat} {R : Chunk → List Value → α → Prop} {t e : TypeId} {fuel : Nat} {cs : List Value} {x : DataW H × List MemPlace} (hs0 : 0 < s) (ht : P.underlying t = some (.slice e)) (hc : P.cellsOf e = s)
    (hel : ∀ (fuel : Nat) (cs : List Value) (x : DataW H × List MemPlace), DataW.trod enc P w base spare held fuel e cs = some x → ∃ u, R (whole w) cs u ∧ cs.length = s)
    (h : DataW.trod enc P w base spare held fuel t cs = some x) : ∃ v ags, cs = [v] ∧ LS s R (whole w) v ags ∧ (ags = [] ∨ ∃ elems sp, x.1 = .slice elems sp ∧ elems.length = ags.length) := by
  rcases Go.Deep.open_slice ht h with ⟨rfl, _⟩ | ⟨a, len, cap, m, n, D, Pl, rfl, hb, hl, hm, hmm, hxx, hx⟩
  · exact ⟨_, [], rfl, LS.nil, .inl rfl⟩
  · rw [hc] at hx
    have hle : len ≤ m := by rw [hmm]; split <;> omega
    have hcap : (cap : Int) ≤ 9223372036854775807 := by have : cap ≤ maxLen := hm; unfold maxLen at this; omega
    by_cases h0 : len = 0
    · subst h0
      exact ⟨_, [], rfl, ⟨⟨[], ⟨by simp, .inl ⟨⟨_, _, rfl⟩, rfl⟩⟩, rfl⟩, by simp⟩, .inl rfl⟩
    · obtain ⟨T, hT⟩ := Go.Deep.choose_lt (α := List Value × α) (n := len) (p := fun i p => w.cells? base (a.add (i * s)) s = some p.1 ∧ R (whole w) p.1 p.2 ∧ p.1.length = s) (fun i hi => by
        obtain ⟨cs', h1, h2⟩ := hx i (by omega)
        obtain ⟨u, hu, hu2⟩ := hel _ _ _ h2
        exact ⟨(cs', u), h1, hu, hu2⟩)
      have hdm : ∀ i j, j < s → (i * s + j) / s = i ∧ (i * s + j) % s = j := fun i j hj => by
        refine ⟨?_, ?_⟩
        · rw [Nat.mul_comm, Nat.mul_add_div hs0, Nat.div_eq_of_lt hj, Nat.add_zero]
        · rw [Nat.mul_comm, Nat.mul_add_mod, Nat.mod_eq_of_lt hj]
      have hV : ∀ j, j < len * s → w.cell? (a.add j) = some (((T (j / s)).1)[j % s]?.getD .nilFunc) := fun j hj => by
        have hd : j / s < len := (Nat.div_lt_iff_lt_mul hs0).2 hj
        have hmod : j % s < s := Nat.mod_lt _ hs0
        obtain ⟨g1, g2, hl13⟩ := hT (j / s) hd
        obtain ⟨_, g3, g4⟩ := World.cells?_some g1
        have g5 := g4 (j % s) (by omega)
        rw [Go.Deep.add_add, Nat.div_add_mod' j s] at g5
        rw [g5, List.getElem?_eq_getElem (by omega)]
        rfl
      obtain ⟨b, k, c, ee, fr, rfl, h1, h2, h3⟩ := cells_row (w := w) (a := a) (n := len * s) (V := fun j => ((T (j / s)).1)[j % s]?.getD .nilFunc) (Nat.mul_pos (by omega) hs0) hV
      have key : ∀ q, q ≤ len → (List.range (q * s)).map (fun j => ((T (j / s)).1)[j % s]?.getD .nilFunc) = ((List.range q).map fun i => (T i).1).flatten ∧ LAt s (R (whole w)) ((List.range q).map fun i => (T i).1).flatten ((List.range q).map fun i => (T i).2) := by
        intro q
        induction q with
        | zero => intro _; exact ⟨by simp, rfl⟩
        | succ q ih =>
          intro hq
          obtain ⟨i1, i2⟩ := ih (by omega)
          obtain ⟨g1, g2, hl13⟩ := hT q (by omega)
          have e1 : (List.range ((q + 1) * s)).map (fun j => ((T (j / s)).1)[j % s]?.getD .nilFunc) = (List.range (q * s)).map (fun j => ((T (j / s)).1)[j % s]?.getD .nilFunc) ++ (T q).1 := by
            rw [Nat.add_mul, Nat.one_mul, List.range_add, List.map_append]
            congr 1
            apply List.ext_getElem?
            intro j
            by_cases hj : j < s
            · obtain ⟨d1, d2⟩ := hdm q j hj
              simp [hj, d1, d2, List.getElem?_eq_getElem (show j < (T q).1.length by omega)]
            · simp [hj, List.getElem?_eq_none (show (T q).1.length ≤ j by omega)]
          refine ⟨?_, ?_⟩
          · rw [e1, i1, List.range_succ, List.map_append, List.flatten_append]; simp
          · rw [List.range_succ, List.map_append, List.map_append, List.flatten_append]
            simp only [List.map_cons, List.map_nil, List.flatten_cons, List.flatten_nil, List.append_nil]
            exact LAt.append i2 (LAt.one hl13 g2)
      obtain ⟨k1, k2⟩ := key len (Nat.le_refl _)
      refine ⟨_, (List.range len).map fun i => (T i).2, rfl, ⟨⟨_, ⟨?_, .inr ⟨b, k, cap, c, ee, fr, by simp, mem_whole.2 h1, by simpa using h2, ?_, by simp; omega⟩⟩, k2⟩, by simp; omega⟩, .inr ⟨_, _, by rw [hxx], by simp⟩⟩
      · rw [k2.length]
      · simp only [List.length_map, List.length_range]
        rw [h3, k1]
theorem bool_of {t : TypeId} {fuel : Nat} {cs : List Value} {x : DataW H × List MemPlace} (ht : P.underlying t = some .bool) (h : DataW.trod enc P w base spare held fuel t cs = some x) : ∃ b, cs = [.bool b] :=
  let ⟨b, h1, _⟩ := DataW.trod_bool ht h; ⟨b, h1⟩
end
end Go.Pw.Md

namespace Go.Proofs.YtmnhooepaemlcaaGreat
open Go Go.Pw Go.Pw.Sc Go.Pw.Md
open Go.ChangeShapes Go.WideShapes Go.ChangeAt Go.RowKit
set_option maxRecDepth 100000
set_option maxHeartbeats 4000000

theorem own_none : ownKnob Tryz.prog.godebug = none := by kernel_rfl
theorem laid_out : laidOutB Tryz.prog = true := by kernel_rfl
theorem und_int : Tryz.prog.underlying 3 = some (.int .i64) := Und.out
theorem und_u64 : Tryz.prog.underlying 47 = some (.int .u64) := Und.out
theorem und_u32 : Tryz.prog.underlying 46 = some (.int .u32) := Und.out
theorem und_u8 : Tryz.prog.underlying 5 = some (.int .u8) := Und.out
theorem und_bs : Tryz.prog.underlying 48 = some (.slice 5) := Und.out
theorem und_ok : Tryz.prog.underlying 45 = some (.int .i64) := Und.out
theorem und_en : Tryz.prog.underlying 28 = some (.int .i64) := Und.out
theorem und_bool : Tryz.prog.underlying 4 = some .bool := Und.out
theorem und_two : Tryz.prog.underlying 43 = some (.array 2 3) := Und.out
theorem und_acts : Tryz.prog.underlying 44 = some (.slice 58) := Und.out
theorem c_int : Tryz.prog.cellsOf 3 = 1 := by kernel_rfl
theorem c_u64 : Tryz.prog.cellsOf 47 = 1 := by kernel_rfl
theorem c_u32 : Tryz.prog.cellsOf 46 = 1 := by kernel_rfl
theorem c_u8 : Tryz.prog.cellsOf 5 = 1 := by kernel_rfl
theorem c_bs : Tryz.prog.cellsOf 48 = 1 := by kernel_rfl
theorem c_ok : Tryz.prog.cellsOf 45 = 1 := by kernel_rfl
theorem c_en : Tryz.prog.cellsOf 28 = 1 := by kernel_rfl
theorem c_bool : Tryz.prog.cellsOf 4 = 1 := by kernel_rfl
theorem c_two : Tryz.prog.cellsOf 43 = 2 := by kernel_rfl
theorem c_op : Tryz.prog.cellsOf 50 = 6 := by kernel_rfl
theorem c_out : Tryz.prog.cellsOf 56 = 4 := by kernel_rfl
theorem c_act : Tryz.prog.cellsOf 58 = 11 := by kernel_rfl
theorem list2 {l : List Value} (h : l.length = 2) : ∃ a b, l = [a, b] := by
  match l, h with
  | [a, b], _ => exact ⟨a, b, rfl⟩
theorem list4 {l : List Value} (h : l.length = 4) : ∃ a b c d, l = [a, b, c, d] := by
  match l, h with
  | [a, b, c, d], _ => exact ⟨a, b, c, d, rfl⟩
theorem list6 {l : List Value} (h : l.length = 6) : ∃ a b c d e f, l = [a, b, c, d, e, f] := by
  match l, h with
  | [a, b, c, d, e, f], _ => exact ⟨a, b, c, d, e, f, rfl⟩
theorem list11 {l : List Value} (h : l.length = 11) : ∃ a b c d e f g i j k m, l = [a, b, c, d, e, f, g, i, j, k, m] := by
  match l, h with
  | [a, b, c, d, e, f, g, i, j, k, m], _ => exact ⟨a, b, c, d, e, f, g, i, j, k, m, rfl⟩

section
variable {H : Type} {enc : TypeId × Value → H} {W : World} {base : Nat} {sp : Nat → Bool} {held : Bool} {fuel : Nat} {cs : List Value} {x : DataW H × List MemPlace}
theorem op_of (h : DataW.trod enc Tryz.prog W base sp held fuel 50 cs = some x) : ∃ k a s m n vb xs, cs = [.int .i64 k, .int .u32 a, .int .u64 s, .int .u64 m, .int .u64 n, vb] ∧ inR .i64 k ∧ inR .u32 a ∧ inR .u64 s ∧ inR .u64 m ∧ inR .u64 n ∧ BS (whole W) vb xs := by
  obtain ⟨hl, n, hf⟩ := field_of Tryz.underlying50 h
  rw [c_op] at hl
  obtain ⟨c0, c1, c2, c3, c4, c5, rfl⟩ := list6 hl
  obtain ⟨y0, f0⟩ := hf 0 _ rfl
  have f0 := i64_of und_ok f0
  change ∃ n, List.take (Tryz.prog.cellsOf 45) _ = _ ∧ _ at f0
  rw [c_ok] at f0
  obtain ⟨k, e0, rk⟩ := f0
  simp at e0
  subst e0
  obtain ⟨y1, f1⟩ := hf 1 _ rfl
  have f1 := u32_of und_u32 f1
  change ∃ n, List.take (Tryz.prog.cellsOf 46) _ = _ ∧ _ at f1
  rw [c_u32] at f1
  obtain ⟨a, e1, ra⟩ := f1
  simp at e1
  subst e1
  obtain ⟨y2, f2⟩ := hf 2 _ rfl
  have f2 := u64_of und_u64 f2
  change ∃ n, List.take (Tryz.prog.cellsOf 47) _ = _ ∧ _ at f2
  rw [c_u64] at f2
  obtain ⟨s, e2, rs⟩ := f2
  simp at e2
  subst e2
  obtain ⟨y3, f3⟩ := hf 3 _ rfl
  have f3 := u64_of und_u64 f3
  change ∃ n, List.take (Tryz.prog.cellsOf 47) _ = _ ∧ _ at f3
  rw [c_u64] at f3
  obtain ⟨m, e3, rm⟩ := f3
  simp at e3
  subst e3
  obtain ⟨y4, f4⟩ := hf 4 _ rfl
  have f4 := u64_of und_u64 f4
  change ∃ n, List.take (Tryz.prog.cellsOf 47) _ = _ ∧ _ at f4
  rw [c_u64] at f4
  obtain ⟨q, e4, rq⟩ := f4
  simp at e4
  subst e4
  obtain ⟨y5, f5⟩ := hf 5 _ rfl
  obtain ⟨vb, xs, e5, hb⟩ := byt_of_trod und_bs und_u8 c_u8 f5
  change List.take (Tryz.prog.cellsOf 48) _ = _ at e5
  rw [c_bs] at e5
  simp at e5
  subst e5
  exact ⟨k, a, s, m, q, c5, xs, rfl, rk, ra, rs, rm, rq, hb⟩
theorem out_of (h : DataW.trod enc Tryz.prog W base sp held fuel 56 cs = some x) : ∃ e a n vb xs, cs = [.int .i64 e, .int .u32 a, .int .i64 n, vb] ∧ inR .i64 e ∧ inR .u32 a ∧ inR .i64 n ∧ BS (whole W) vb xs := by
  obtain ⟨hl, n, hf⟩ := field_of Tryz.underlying56 h
  rw [c_out] at hl
  obtain ⟨c0, c1, c2, c3, rfl⟩ := list4 hl
  obtain ⟨y0, f0⟩ := hf 0 _ rfl
  have f0 := i64_of und_en f0
  change ∃ n, List.take (Tryz.prog.cellsOf 28) _ = _ ∧ _ at f0
  rw [c_en] at f0
  obtain ⟨k, e0, rk⟩ := f0
  simp at e0
  subst e0
  obtain ⟨y1, f1⟩ := hf 1 _ rfl
  have f1 := u32_of und_u32 f1
  change ∃ n, List.take (Tryz.prog.cellsOf 46) _ = _ ∧ _ at f1
  rw [c_u32] at f1
  obtain ⟨a, e1, ra⟩ := f1
  simp at e1
  subst e1
  obtain ⟨y2, f2⟩ := hf 2 _ rfl
  have f2 := i64_of und_int f2
  change ∃ n, List.take (Tryz.prog.cellsOf 3) _ = _ ∧ _ at f2
  rw [c_int] at f2
  obtain ⟨s, e2, rs⟩ := f2
  simp at e2
  subst e2
  obtain ⟨y3, f3⟩ := hf 3 _ rfl
  obtain ⟨vb, xs, e3, hb⟩ := byt_of_trod und_bs und_u8 c_u8 f3
  change List.take (Tryz.prog.cellsOf 48) _ = _ at e3
  rw [c_bs] at e3
  simp at e3
  subst e3
  exact ⟨k, a, s, c3, xs, rfl, rk, ra, rs, hb⟩
theorem act_of (h : DataW.trod enc Tryz.prog W base sp held fuel 58 cs = some x) : ∃ u, ActAt (whole W) cs u ∧ cs.length = 11 := by
  obtain ⟨hl, n, hf⟩ := field_of Tryz.underlying58 h
  rw [c_act] at hl
  obtain ⟨c0, c1, c2, c3, c4, c5, c6, c7, c8, c9, c10, rfl⟩ := list11 hl
  obtain ⟨y0, f0⟩ := hf 0 _ rfl
  obtain ⟨k', a', s', m', n', vb, xs, e5, r1, r2, r3, r4, r5, hb⟩ := op_of f0
  change List.take (Tryz.prog.cellsOf 50) _ = _ at e5
  rw [c_op] at e5
  simp at e5
  obtain ⟨rfl, rfl, rfl, rfl, rfl, rfl⟩ := e5
  obtain ⟨y1, f1⟩ := hf 1 _ rfl
  obtain ⟨e, a, q, vo, ys, e6, q1, q2, q3, ho⟩ := out_of f1
  change List.take (Tryz.prog.cellsOf 56) _ = _ at e6
  rw [c_out] at e6
  simp at e6
  obtain ⟨rfl, rfl, rfl, rfl⟩ := e6
  obtain ⟨y2, f2⟩ := hf 2 _ rfl
  obtain ⟨b, e7⟩ := bool_of und_bool f2
  change List.take (Tryz.prog.cellsOf 4) _ = _ at e7
  rw [c_bool] at e7
  simp at e7
  subst e7
  exact ⟨⟨⟨k', a', s', m', n', xs⟩, ⟨e, a, q, ys⟩, b⟩, ⟨_, _, rfl, hb, ho, ⟨r1, r2, r3, r4, r5⟩, ⟨q1, q2, q3⟩⟩, rfl⟩
theorem two_of (h : DataW.trod enc Tryz.prog W base sp held fuel 43 cs = some x) : ∃ a b, cs = [.int .i64 a, .int .i64 b] ∧ inR .i64 a ∧ inR .i64 b := by
  obtain ⟨xs2, m2, _, _, hl, l2, g2⟩ := DataW.trod_array und_two h
  rw [c_two] at hl
  obtain ⟨p, q, rfl⟩ := list2 hl
  obtain ⟨a, ea, _, wa⟩ := DataW.trod_int und_int ((g2 0 (by decide)).trans (List.getElem?_eq_getElem (by omega)))
  obtain ⟨b, eb, _, wb⟩ := DataW.trod_int und_int ((g2 1 (by decide)).trans (List.getElem?_eq_getElem (by omega)))
  rw [c_int] at ea eb
  simp at ea eb
  subst ea eb
  exact ⟨a, b, rfl, bounds_i64 wa, bounds_i64 wb⟩
end
end Go.Proofs.YtmnhooepaemlcaaGreat

namespace Go.Proofs.YtmnhooepaemlcaaGreat
open Go Go.Pw Go.Pw.Sc Go.Pw.Md
set_option maxRecDepth 100000
set_option maxHeartbeats 4000000
set_option synthInstance.maxHeartbeats 400000
set_option synthInstance.maxSize 2000
attribute [local irreducible] CW OW RW thenK blockK
attribute [local irreducible] scopeK loopK TRW ATW


theorem slotIs (s : Int) (L : Chunk) : Fn1 Tryz.prog 107 [.int .i64 s] L (fun u L' => u = .bool (decide (0 ≤ s ∧ s < 4)) ∧ L = L') := by
  intro w0; refine Spec.enter1 Tryz.func107 rfl Tryz.ntmps107 (by decide) ?_
  repeat' (first|refine Ga0 fun _=>?_|refine Ga1 ?_|refine Ga2 (fun _=>?_) fun _=>?_|refine Ga3 ?_|refine Ga4 fun _=>?_|fail)
  all_goals exact bodyK.retD L (Res.one Tryz.results107) ⟨(congrArg Value.bool (by first | exact (decide_eq_true (by omega)).symm | exact (decide_eq_false (by omega)).symm)), rfl⟩
theorem placeBase (s : Int) (h : 0 ≤ s ∧ s < 4) (L : Chunk) : Fn1 Tryz.prog 108 [.agg #[.int .i64 s]] L (fun u L' => u = .int .i64 (4096 * (s + 1)) ∧ L = L') := by
  intro w0; refine Spec.enter1 Tryz.func108 rfl Tryz.ntmps108 (by decide) ?_
  obtain ⟨h1, h2⟩ := h
  repeat' (first|refine Ga0 fun _=>?_|refine Ga1 ?_|refine Ga2 (fun _=>?_) fun _=>?_|refine Ga3 ?_|refine Ga4 fun _=>?_|fail)
  exact bodyK.retD L (Res.one Tryz.results108) ⟨rfl, rfl⟩
theorem placeBook (s : Int) (h : 0 ≤ s ∧ s < 4) (L : Chunk) : Fn1 Tryz.prog 262 [.agg #[.int .i64 s]] L (fun u L' => u = .int .i64 (64 * s + 1) ∧ L = L') := by
  intro w0; refine Spec.enter1 Tryz.func262 rfl Tryz.ntmps262 (by decide) ?_
  obtain ⟨h1, h2⟩ := h
  repeat' (first|refine Ga0 fun _=>?_|refine Ga1 ?_|refine Ga2 (fun _=>?_) fun _=>?_|refine Ga3 ?_|refine Ga4 fun _=>?_|fail)
  exact bodyK.retD L (Res.one Tryz.results262) ⟨rfl, rfl⟩
theorem windowBase (s : Int) (L : Chunk) : Fn1 Tryz.prog 56 [.int .i64 s] L (fun u L' => (∃ b, u = .tuple #[.int .i64 b, .int .i64 (if 0 ≤ s ∧ s < 4 then 0 else 2)]) ∧ L = L') := by
  intro w0; refine Spec.enter1 Tryz.func56 rfl Tryz.ntmps56 (by decide) ?_
  repeat' (first|refine Ga0 fun _=>?_|refine Ga1 ?_|refine Ga2 (fun _=>?_) fun _=>?_|refine Ga3 ?_|refine Ga4 fun _=>?_|fail)
  refine OW.call (slotIs s _) ?_
  rintro _ _ ⟨rfl, rfl⟩
  by_cases h : 0 ≤ s ∧ s < 4
  · rw [decide_eq_true h, if_pos h]
    repeat' (first|refine Ga0 fun _=>?_|refine Ga1 ?_|refine Ga2 (fun _=>?_) fun _=>?_|refine Ga3 ?_|refine Ga4 fun _=>?_|fail)
    refine OW.call (placeBase s h _) ?_
    rintro _ _ ⟨rfl, rfl⟩
    repeat' (first|refine Ga0 fun _=>?_|refine Ga1 ?_|refine Ga2 (fun _=>?_) fun _=>?_|refine Ga3 ?_|refine Ga4 fun _=>?_|fail)
    exact bodyK.retD L (Res.two Tryz.results56) ⟨⟨_, rfl⟩, rfl⟩
  · rw [decide_eq_false h, if_neg h]
    repeat' (first|refine Ga0 fun _=>?_|refine Ga1 ?_|refine Ga2 (fun _=>?_) fun _=>?_|refine Ga3 ?_|refine Ga4 fun _=>?_|fail)
    exact bodyK.retD L (Res.two Tryz.results56) ⟨⟨_, rfl⟩, rfl⟩

theorem fits1 (n : Int) (bo : Nat) (bound : Int) (L : Chunk) [hin : InC L bo (.cells #[.int .i64 bound] 3 (0, 0))] :
    Fn1 Tryz.prog 259 [.int .i64 n, .pointer (some ⟨bo, 0, none⟩)] L (fun u L' => u = .bool (decide (¬ (0 ≤ n ∧ n < bound))) ∧ L = L') := by
  intro w0; refine Spec.enter2 Tryz.func259 rfl Tryz.ntmps259 (by decide) ?_
  have h0 := hin
  repeat' (first|refine Ga0 fun _=>?_|refine Ga1 ?_|refine Ga2 (fun _=>?_) fun _=>?_|refine Ga3 ?_|refine Ga4 fun _=>?_|fail)
  all_goals exact bodyK.retD L (Res.one Tryz.results259) ⟨(congrArg Value.bool (by first | exact (decide_eq_true (by omega)).symm | exact (decide_eq_false (by omega)).symm)), rfl⟩

theorem indexFuncInt (xs : List Int) (p : Int → Bool) (v fv : Value) (L : Chunk) (h : Rd L 1 v xs.length (iv xs)) (hl : (xs.length : Int) ≤ 9223372036854775807) (hf : ∀ x ∈ xs, VP Tryz.prog fv [.int .i64 x] L (fun u L' => u = .bool (p x) ∧ L = L') noPanic) :
    Fn1 Tryz.prog 256 [v, fv] L (fun u L' => u = .int .i64 ((xs.findIdx? p).elim (-1) fun n => (n : Int)) ∧ L = L') := by
  intro w0; refine Spec.enter2 Tryz.func256 rfl Tryz.ntmps256 (by decide) ?_
  obtain ⟨a, c, rfl, hc⟩ := h.isSlice
  repeat' (first|refine Ga0 fun _=>?_|refine Ga1 ?_|refine Ga2 (fun _=>?_) fun _=>?_|refine Ga3 ?_|refine Ga4 fun _=>?_|fail)
  refine CW.count xs.length (fun i ρ ds L' => ds = [] ∧ L' = L ∧ (∀ x ∈ xs.take i, p x = false) ∧ Ev ρ 0 (.slice a xs.length c) ∧ Ev ρ 1 fv ∧ Ev ρ 7 (.int .i64 xs.length) ∧ Ev ρ 8 (.int .i64 i)) ⟨rfl, rfl, by simp, inferInstance, inferInstance, inferInstance, inferInstance⟩ ?_
  rintro i ρ ds L' hi ⟨rfl, rfl, hp, e0, e1, e7, e8⟩
  by_cases hlt : i < xs.length
  · obtain ⟨b, k, cap, l, e, fr, hv, hin, hcap, hnth⟩ := h.open1 (by omega)
    cases hv
    have hn := hnth i _ hlt (iv_get hlt)
    repeat' (first|refine Ga0 fun _=>?_|refine Ga1 ?_|refine Ga2 (fun _=>?_) fun _=>?_|refine Ga3 ?_|refine Ga4 fun _=>?_|fail)
    refine OW.callV1 (hf xs[i] (List.getElem_mem hlt)) ?_
    rintro _ _ ⟨rfl, rfl⟩
    cases hpx : p xs[i] with
    | true =>
      repeat' (first|refine Ga0 fun _=>?_|refine Ga1 ?_|refine Ga2 (fun _=>?_) fun _=>?_|refine Ga3 ?_|refine Ga4 fun _=>?_|fail)
      refine bodyK.ret (Res.one Tryz.results256) ⟨?_, rfl⟩
      have : xs.findIdx? p = some i := by
        rw [List.findIdx?_eq_some_iff_getElem]
        exact ⟨hlt, hpx, fun j hj => by rw [hp xs[j] (by rw [List.mem_take_iff_getElem]; exact ⟨j, by omega, rfl⟩)]; simp⟩
      rw [this]; rfl
    | false =>
      repeat' (first|refine Ga0 fun _=>?_|refine Ga1 ?_|refine Ga2 (fun _=>?_) fun _=>?_|refine Ga3 ?_|refine Ga4 fun _=>?_|fail)
      refine ⟨hlt, rfl, rfl, ?_, inferInstance, inferInstance, inferInstance, inferInstance⟩
      rw [List.take_succ_eq_append_getElem hlt]
      intro x hx
      rcases List.mem_append.1 hx with hx | hx
      · exact hp x hx
      · rw [List.mem_singleton.1 hx]; exact hpx
  · obtain rfl : i = xs.length := by omega
    rw [List.take_length] at hp
    repeat' (first|refine Ga0 fun _=>?_|refine Ga1 ?_|refine Ga2 (fun _=>?_) fun _=>?_|refine Ga3 ?_|refine Ga4 fun _=>?_|fail)
    refine bodyK.ret (Res.one Tryz.results256) ⟨?_, rfl⟩
    have : xs.findIdx? p = none := by rw [List.findIdx?_eq_none_iff]; exact hp
    rw [this]; rfl
theorem findIdx_ex {α : Type} (p : α → Bool) (xs : List α) : (0 ≤ ((xs.findIdx? p).elim (-1) fun n => (n : Int)) ↔ ∃ x ∈ xs, p x = true) := by
  cases h : xs.findIdx? p with
  | none =>
    rw [List.findIdx?_eq_none_iff] at h
    simp only [Option.elim_none]
    exact ⟨fun h => absurd h (by decide), fun ⟨x, hx, hp⟩ => by rw [h x hx] at hp; cases hp⟩
  | some n =>
    rw [List.findIdx?_eq_some_iff_getElem] at h
    simp only [Option.elim_some]
    exact ⟨fun _ => ⟨_, List.getElem_mem h.1, h.2.1⟩, fun _ => by omega⟩
theorem containsFuncInt (xs : List Int) (p : Int → Bool) (v fv : Value) (L : Chunk) (h : Rd L 1 v xs.length (iv xs)) (hl : (xs.length : Int) ≤ 9223372036854775807) (hf : ∀ x ∈ xs, VP Tryz.prog fv [.int .i64 x] L (fun u L' => u = .bool (p x) ∧ L = L') noPanic) :
    Fn1 Tryz.prog 258 [v, fv] L (fun u L' => u = .bool (decide (∃ x ∈ xs, p x = true)) ∧ L = L') := by
  intro w0; refine Spec.enter2 Tryz.func258 rfl Tryz.ntmps258 (by decide) ?_
  repeat' (first|refine Ga0 fun _=>?_|refine Ga1 ?_|refine Ga2 (fun _=>?_) fun _=>?_|refine Ga3 ?_|refine Ga4 fun _=>?_|fail)
  refine OW.call (indexFuncInt xs p v fv L h hl hf) ?_
  rintro u L' ⟨rfl, rfl⟩
  have hk := findIdx_ex p xs
  generalize ((xs.findIdx? p).elim (-1) fun n => (n : Int)) = k at hk ⊢
  repeat' (first|refine Ga0 fun _=>?_|refine Ga1 ?_|refine Ga2 (fun _=>?_) fun _=>?_|refine Ga3 ?_|refine Ga4 fun _=>?_|fail)
  all_goals refine bodyK.ret (Res.one Tryz.results258) ⟨congrArg Value.bool ?_, rfl⟩
  · exact (decide_eq_true (hk.1 (by assumption))).symm
  · exact (decide_eq_false (fun h => absurd (hk.2 h) (by assumption))).symm
/-- One number. -/
theorem windowFits (bound n : Int) (v : Value) (L : Chunk) (h : Rd L 1 v 1 [.int .i64 n]) :
    Fn1 Tryz.prog 249 [.int .i64 bound, v] L (fun u L' => u = .bool (decide (0 ≤ n ∧ n < bound)) ∧ L = L') := by
  intro w0; refine Spec.enter2 Tryz.func249 rfl Tryz.ntmps249 (by decide) ?_
  obtain ⟨a, c, rfl, hc⟩ := h.isSlice
  repeat' (first|refine Ga0 fun _=>?_|refine Ga1 ?_|refine Ga2 (fun _=>?_) fun _=>?_|refine Ga3 ?_|refine Ga4 fun _=>?_|fail)
  rename_i bo
  refine OW.call (containsFuncInt [n] (fun n => decide (¬ (0 ≤ n ∧ n < bound))) _ _ _ h.to (by simp) (fun x _ => FnP.vp (first := #[]) (cap := #[.pointer (some ⟨bo, 0, none⟩)]) (fits1 x bo bound _))) ?_
  rintro u L' ⟨rfl, rfl⟩
  repeat' (first|refine Ga0 fun _=>?_|refine Ga1 ?_|refine Ga2 (fun _=>?_) fun _=>?_|refine Ga3 ?_|refine Ga4 fun _=>?_|fail)
  refine bodyK.retD L (Res.one Tryz.results249) ⟨congrArg Value.bool ?_, rfl⟩
  by_cases hall : 0 ≤ n ∧ n < bound
  · simp [hall]
  · simp only [List.mem_singleton, exists_eq_left, hall, not_false_eq_true, decide_true, decide_false, Bool.not_true]

@[reducible] def siteV (k s c p : Int) : Value := .agg #[.int .i64 k, .int .i64 s, .int .i64 c, .int .i64 p]

theorem kinds1 (s p f : Int) (h : 0 ≤ s ∧ s < 4) (hp : -100000 ≤ p ∧ p ≤ 100000) (L : Chunk) : Fn1 Tryz.prog 261 [.agg #[.int .i64 s], .int .i64 p, .int .i64 f] L
    (fun u L' => (∃ k s' c q, u = .tuple #[siteV k s' c q, .bool (decide (0 ≤ p - (64 * s + 1) ∧ p - (64 * s + 1) < 48))]) ∧ L = L') := by
  intro w0; refine Spec.enter3 Tryz.func261 rfl Tryz.ntmps261 (by decide) ?_
  have h' := h
  obtain ⟨h1, h2⟩ := h'
  obtain ⟨hp1, hp2⟩ := hp
  repeat' (first|refine Gi0 fun _=>?_|refine Gi1 ?_|refine CW.drawsS (id := 1) 6 [0,1,5,6,2,3,4,7,8,9,10,11,12] mixed (by kernel_rfl) ?_|refine Gi2 (fun _=>?_) fun _=>?_|refine Gi3 ?_|refine Gi4 fun _=>?_|fail)
  refine RW.call (placeBook s h _) ?_
  rintro _ _ ⟨rfl, rfl⟩
  refine pinOld ?_
  repeat' (first|refine Gi0 fun _=>?_|refine Gi1 ?_|refine CW.drawsS (id := 1) 6 [0,1,5,6,2,3,4,7,8,9,10,11,12] mixed (by kernel_rfl) ?_|refine Gi2 (fun _=>?_) fun _=>?_|refine Gi3 ?_|refine Gi4 fun _=>?_|fail)
  refine RW.call (placeBook s h _) ?_
  rintro _ _ ⟨rfl, rfl⟩
  refine pinOld ?_
  repeat' (first|refine Gi0 fun _=>?_|refine Gi1 ?_|refine CW.drawsS (id := 1) 6 [0,1,5,6,2,3,4,7,8,9,10,11,12] mixed (by kernel_rfl) ?_|refine Gi2 (fun _=>?_) fun _=>?_|refine Gi3 ?_|refine Gi4 fun _=>?_|fail)
  refine RW.call (windowFits 48 _ _ _ (Rd.blk (b := _) (l := [_]) rfl (Nat.le_refl _))) ?_
  rintro _ _ ⟨rfl, rfl⟩
  refine pinOld ?_
  repeat' (first|refine Gi0 fun _=>?_|refine Gi1 ?_|refine CW.drawsS (id := 1) 6 [0,1,5,6,2,3,4,7,8,9,10,11,12] mixed (by kernel_rfl) ?_|refine Gi2 (fun _=>?_) fun _=>?_|refine Gi3 ?_|refine Gi4 fun _=>?_|fail)
  exact bodyK.retD L (Res.of2 Tryz.results261) ⟨⟨_, _, _, _, rfl⟩, rfl⟩

theorem kinds2 (s p f : Int) (hf : -100000 ≤ f ∧ f ≤ 100000) (L : Chunk) : Fn1 Tryz.prog 263 [.agg #[.int .i64 s], .int .i64 p, .int .i64 f] L
    (fun u L' => (∃ k s' c q, u = .tuple #[siteV k s' c q, .bool (decide (0 < f ∧ (f - 1) / 17 < 8 ∧ (f - 1) % 17 < 16))]) ∧ L = L') := by
  intro w0; refine Spec.enter3 Tryz.func263 rfl Tryz.ntmps263 (by decide) ?_
  obtain ⟨hf1, hf2⟩ := hf
  by_cases h0 : 0 < f
  · repeat' (first|refine Gb0 fun _=>?_|refine Gb1 ?_|refine Gb2 (fun _=>?_) fun _=>?_|refine Gb3 ?_|refine Gb4 fun _=>?_|fail)
    all_goals exact bodyK.retD L (Res.of2 Tryz.results263) ⟨⟨_, _, _, _, congrArg Value.tuple (congrArg (fun x => #[_, x]) (congrArg Value.bool (by first | exact (decide_eq_true (by omega)).symm | exact (decide_eq_false (by omega)).symm)))⟩, rfl⟩
  · repeat' (first|refine Gb0 fun _=>?_|refine Gb1 ?_|refine Gb2 (fun _=>?_) fun _=>?_|refine Gb3 ?_|refine Gb4 fun _=>?_|fail)
    refine OW.y (yl_quo (inferInstance) (inferInstance) (by decide)) ?_
    repeat' (first|refine Gb0 fun _=>?_|refine Gb1 ?_|refine Gb2 (fun _=>?_) fun _=>?_|refine Gb3 ?_|refine Gb4 fun _=>?_|fail)
    refine OW.y (yl_rem (inferInstance) (inferInstance) (by decide)) ?_
    repeat' (first|refine Gb0 fun _=>?_|refine Gb1 ?_|refine Gb2 (fun _=>?_) fun _=>?_|refine Gb3 ?_|refine Gb4 fun _=>?_|fail)
    all_goals exact bodyK.retD L (Res.of2 Tryz.results263) ⟨⟨_, _, _, _, congrArg Value.tuple (congrArg (fun x => #[_, x]) (congrArg Value.bool (by first | exact (decide_eq_true (by omega)).symm | exact (decide_eq_false (by omega)).symm)))⟩, rfl⟩
theorem kinds3 (s p f : Int) (L : Chunk) : Fn1 Tryz.prog 264 [.agg #[.int .i64 s], .int .i64 p, .int .i64 f] L
    (fun u L' => (∃ k s' c q, u = .tuple #[siteV k s' c q, .bool (decide (256 ≤ f ∧ f < 4096))]) ∧ L = L') := by
  intro w0; refine Spec.enter3 Tryz.func264 rfl Tryz.ntmps264 (by decide) ?_
  repeat' (first|refine Ga0 fun _=>?_|refine Ga1 ?_|refine Ga2 (fun _=>?_) fun _=>?_|refine Ga3 ?_|refine Ga4 fun _=>?_|fail)
  all_goals exact bodyK.retD L (Res.of2 Tryz.results264) ⟨⟨_, _, _, _, congrArg Value.tuple (congrArg (fun x => #[_, x]) (congrArg Value.bool (by first | exact (decide_eq_true (by omega)).symm | exact (decide_eq_false (by omega)).symm)))⟩, rfl⟩
theorem kinds4 (s p f : Int) (L : Chunk) : Fn1 Tryz.prog 265 [.agg #[.int .i64 s], .int .i64 p, .int .i64 f] L
    (fun u L' => (∃ k s' c q, u = .tuple #[siteV k s' c q, .bool (decide (0 ≤ f ∧ f < 4096))]) ∧ L = L') := by
  intro w0; refine Spec.enter3 Tryz.func265 rfl Tryz.ntmps265 (by decide) ?_
  repeat' (first|refine Ga0 fun _=>?_|refine Ga1 ?_|refine Ga2 (fun _=>?_) fun _=>?_|refine Ga3 ?_|refine Ga4 fun _=>?_|fail)
  refine OW.call (windowFits 4096 _ _ _ (Rd.blk (b := _) (l := [_]) rfl (Nat.le_refl _))) ?_
  rintro _ _ ⟨rfl, rfl⟩
  repeat' (first|refine Ga0 fun _=>?_|refine Ga1 ?_|refine Ga2 (fun _=>?_) fun _=>?_|refine Ga3 ?_|refine Ga4 fun _=>?_|fail)
  exact bodyK.retD L (Res.of2 Tryz.results265) ⟨⟨_, _, _, _, rfl⟩, rfl⟩

/-- What the kind of this number asks. -/
def kindB (j s p : Int) : Bool :=
  if j = 1 then decide (0 ≤ p - (64 * s + 1) ∧ p - (64 * s + 1) < 48)
  else if j = 2 then decide (0 < p - 4096 * (s + 1) ∧ (p - 4096 * (s + 1) - 1) / 17 < 8 ∧ (p - 4096 * (s + 1) - 1) % 17 < 16)
  else if j = 3 then decide (256 ≤ p - 4096 * (s + 1) ∧ p - 4096 * (s + 1) < 4096)
  else decide (0 ≤ p - 4096 * (s + 1) ∧ p - 4096 * (s + 1) < 4096)
theorem ofOne (j s p : Int) (fv : Value) (sf : Sng fv) (h : 0 ≤ s ∧ s < 4) (hp : 0 ≤ p ∧ p < 65536) (b1 b2 : Nat) (L : Chunk) [h1 : InC L b1 (.cells #[.int .i64 s] 218 (0, 0))] [h2 : InC L b2 (.cells #[.int .i64 p] 3 (0, 0))]
    (hv : ∀ L, VP Tryz.prog fv [.agg #[.int .i64 s], .int .i64 p, .int .i64 (p - 4096 * (s + 1))] L (fun u L' => (∃ k s' c q, u = .tuple #[siteV k s' c q, .bool (kindB j s p)]) ∧ L = L') noPanic) :
    Fn1 Tryz.prog 253 [.agg #[.int .i64 j, fv], .pointer (some ⟨b1, 0, none⟩), .pointer (some ⟨b2, 0, none⟩)] L (fun u L' => (∃ c q, u = .tuple #[siteV j s c q, .bool (kindB j s p)]) ∧ L = L') := by
  intro w0; refine Spec.enter3 Tryz.func253 rfl Tryz.ntmps253 (by decide) ?_
  have h' := h
  obtain ⟨s1, s2⟩ := h'
  obtain ⟨p1, p2⟩ := hp
  have g1 := h1
  have g2 := h2
  repeat' (first|refine Gi0 fun _=>?_|refine Gi1 ?_|refine CW.drawsTreeA (id := 1) (.fork [0, 1, 2, 3, 4, 5] 6 12 (.fork [7] 8 12 (.leaf [9, 10, 11, 12, 13, 14]) (.leaf [8, 9, 10, 11, 13, 14])) (.leaf [6, 7, 8, 9, 10, 11, 13, 14])) mixed (by kernel_rfl) ?_|refine CW.drawsS (id := 2) 6 [0,1,2,3,4,5,6,7] mixed (by kernel_rfl) ?_|refine TRW.fork ?_|refine TRW.leaf ?_|refine TRW.both ?_ ?_|refine Gi2 (fun _=>?_) fun _=>?_|refine Gi3 ?_|refine Gi4 fun _=>?_|fail)
  · refine RW.call (placeBase s h _) ?_
    rintro _ _ ⟨rfl, rfl⟩
    refine pinAll ?_
    repeat' (first|refine Gi0 fun _=>?_|refine Gi1 ?_|refine CW.drawsTreeA (id := 1) (.fork [0, 1, 2, 3, 4, 5] 6 12 (.fork [7] 8 12 (.leaf [9, 10, 11, 12, 13, 14]) (.leaf [8, 9, 10, 11, 13, 14])) (.leaf [6, 7, 8, 9, 10, 11, 13, 14])) mixed (by kernel_rfl) ?_|refine CW.drawsS (id := 2) 6 [0,1,2,3,4,5,6,7] mixed (by kernel_rfl) ?_|refine TRW.fork ?_|refine TRW.leaf ?_|refine TRW.both ?_ ?_|refine Gi2 (fun _=>?_) fun _=>?_|refine Gi3 ?_|refine Gi4 fun _=>?_|fail)
    · refine RW.callV1 (hv _) ?_
      rintro _ _ ⟨⟨k, s', c, q, rfl⟩, rfl⟩
      refine pinAll ?_
      repeat' (first|refine Gi0 fun _=>?_|refine Gi1 ?_|refine CW.drawsTreeA (id := 1) (.fork [0, 1, 2, 3, 4, 5] 6 12 (.fork [7] 8 12 (.leaf [9, 10, 11, 12, 13, 14]) (.leaf [8, 9, 10, 11, 13, 14])) (.leaf [6, 7, 8, 9, 10, 11, 13, 14])) mixed (by kernel_rfl) ?_|refine CW.drawsS (id := 2) 6 [0,1,2,3,4,5,6,7] mixed (by kernel_rfl) ?_|refine TRW.fork ?_|refine TRW.leaf ?_|refine TRW.both ?_ ?_|refine Gi2 (fun _=>?_) fun _=>?_|refine Gi3 ?_|refine Gi4 fun _=>?_|fail)
      exact bodyK.retD L (Res.of2 Tryz.results253) ⟨⟨_, _, rfl⟩, rfl⟩
    · refine RW.callV1 (hv _) ?_
      rintro _ _ ⟨⟨k, s', c, q, rfl⟩, rfl⟩
      refine pinOld ?_
      repeat' (first|refine Gi0 fun _=>?_|refine Gi1 ?_|refine CW.drawsTreeA (id := 1) (.fork [0, 1, 2, 3, 4, 5] 6 12 (.fork [7] 8 12 (.leaf [9, 10, 11, 12, 13, 14]) (.leaf [8, 9, 10, 11, 13, 14])) (.leaf [6, 7, 8, 9, 10, 11, 13, 14])) mixed (by kernel_rfl) ?_|refine CW.drawsS (id := 2) 6 [0,1,2,3,4,5,6,7] mixed (by kernel_rfl) ?_|refine TRW.fork ?_|refine TRW.leaf ?_|refine TRW.both ?_ ?_|refine Gi2 (fun _=>?_) fun _=>?_|refine Gi3 ?_|refine Gi4 fun _=>?_|fail)
      exact bodyK.retD L (Res.of2 Tryz.results253) ⟨⟨_, _, rfl⟩, rfl⟩
  · refine RW.call (placeBase s h _) ?_
    rintro _ _ ⟨rfl, rfl⟩
    refine pinOld ?_
    repeat' (first|refine Gi0 fun _=>?_|refine Gi1 ?_|refine CW.drawsTreeA (id := 1) (.fork [0, 1, 2, 3, 4, 5] 6 12 (.fork [7] 8 12 (.leaf [9, 10, 11, 12, 13, 14]) (.leaf [8, 9, 10, 11, 13, 14])) (.leaf [6, 7, 8, 9, 10, 11, 13, 14])) mixed (by kernel_rfl) ?_|refine CW.drawsS (id := 2) 6 [0,1,2,3,4,5,6,7] mixed (by kernel_rfl) ?_|refine TRW.fork ?_|refine TRW.leaf ?_|refine TRW.both ?_ ?_|refine Gi2 (fun _=>?_) fun _=>?_|refine Gi3 ?_|refine Gi4 fun _=>?_|fail)
    refine RW.callV1 (hv _) ?_
    rintro _ _ ⟨⟨k, s', c, q, rfl⟩, rfl⟩
    refine pinOld ?_
    repeat' (first|refine Gi0 fun _=>?_|refine Gi1 ?_|refine CW.drawsTreeA (id := 1) (.fork [0, 1, 2, 3, 4, 5] 6 12 (.fork [7] 8 12 (.leaf [9, 10, 11, 12, 13, 14]) (.leaf [8, 9, 10, 11, 13, 14])) (.leaf [6, 7, 8, 9, 10, 11, 13, 14])) mixed (by kernel_rfl) ?_|refine CW.drawsS (id := 2) 6 [0,1,2,3,4,5,6,7] mixed (by kernel_rfl) ?_|refine TRW.fork ?_|refine TRW.leaf ?_|refine TRW.both ?_ ?_|refine Gi2 (fun _=>?_) fun _=>?_|refine Gi3 ?_|refine Gi4 fun _=>?_|fail)
    exact bodyK.retD L (Res.of2 Tryz.results253) ⟨⟨_, _, rfl⟩, rfl⟩

theorem windowKinds (L : Chunk) : Fn1 Tryz.prog 252 [] L (fun u L' => ∃ b, u = .slice (some ⟨b, 0, none⟩) 4 4 ∧ L' = (b, .cells #[.int .i64 1, .func (.func 261) #[] #[], .int .i64 2, .func (.func 263) #[] #[], .int .i64 3, .func (.func 264) #[] #[], .int .i64 4, .func (.func 265) #[] #[]] 353 (0, 0)) :: L) := by
  intro w0; refine Spec.enter0 Tryz.func252 rfl Tryz.ntmps252 ?_
  repeat' (first|refine Ga0 fun _=>?_|refine Ga1 ?_|refine Ga2 (fun _=>?_) fun _=>?_|refine Ga3 ?_|refine Ga4 fun _=>?_|fail)
  exact bodyK.ret (Res.one Tryz.results252) ⟨_, rfl, rfl⟩

theorem kindB_none {s p : Int} : slotKind s p = 0 ↔ kindB 1 s p = false ∧ kindB 2 s p = false ∧ kindB 3 s p = false ∧ kindB 4 s p = false := by
  unfold slotKind kindB
  constructor
  · intro h
    repeat' split at h
    all_goals first | cases h | skip
    simp only [if_true, show ¬ ((2 : Int) = 1) by decide, show ¬ ((3 : Int) = 1) by decide, show ¬ ((3 : Int) = 2) by decide, show ¬ ((4 : Int) = 1) by decide, show ¬ ((4 : Int) = 2) by decide, show ¬ ((4 : Int) = 3) by decide, if_false, decide_eq_false_iff_not]
    refine ⟨by omega, by assumption, by omega, by omega⟩
  · simp only [if_true, show ¬ ((2 : Int) = 1) by decide, show ¬ ((3 : Int) = 1) by decide, show ¬ ((3 : Int) = 2) by decide, show ¬ ((4 : Int) = 1) by decide, show ¬ ((4 : Int) = 2) by decide, show ¬ ((4 : Int) = 3) by decide, if_false, decide_eq_false_iff_not]
    rintro ⟨h1, h2, h3, h4⟩
    rw [if_neg (by omega), if_neg h2, if_neg (by omega), if_neg (by omega)]
theorem kindB_is {s p j : Int} (hj : j = 1 ∨ j = 2 ∨ j = 3 ∨ j = 4) (h1 : ∀ i, 1 ≤ i → i < j → kindB i s p = false) (h2 : kindB j s p = true) : slotKind s p = j := by
  have d21 : ¬ ((2 : Int) = 1) := by decide
  have d31 : ¬ ((3 : Int) = 1) := by decide
  have d32 : ¬ ((3 : Int) = 2) := by decide
  have d41 : ¬ ((4 : Int) = 1) := by decide
  have d42 : ¬ ((4 : Int) = 2) := by decide
  have d43 : ¬ ((4 : Int) = 3) := by decide
  unfold slotKind
  rcases hj with rfl | rfl | rfl | rfl
  · simp only [kindB, if_true, decide_eq_true_eq] at h2
    rw [if_pos (by omega)]
  · have g1 := h1 1 (by decide) (by decide)
    simp only [kindB, if_true, d21, if_false, decide_eq_true_eq, decide_eq_false_iff_not] at h2 g1
    rw [if_neg (by omega), if_pos h2]
  · have g1 := h1 1 (by decide) (by decide)
    have g2 := h1 2 (by decide) (by decide)
    simp only [kindB, if_true, d21, d31, d32, if_false, decide_eq_true_eq, decide_eq_false_iff_not] at h2 g1 g2
    rw [if_neg (by omega), if_neg g2, if_pos h2]
  · have g1 := h1 1 (by decide) (by decide)
    have g2 := h1 2 (by decide) (by decide)
    have g3 := h1 3 (by decide) (by decide)
    simp only [kindB, if_true, d21, d31, d32, d41, d42, d43, if_false, decide_eq_true_eq, decide_eq_false_iff_not] at h2 g1 g2 g3
    rw [if_neg (by omega), if_neg g2, if_neg (by omega), if_pos h2]
end Go.Proofs.YtmnhooepaemlcaaGreat

namespace Go.Proofs.YtmnhooepaemlcaaGreat
open Go Go.Pw Go.Pw.Sc Go.Pw.Md
set_option maxRecDepth 100000
set_option maxHeartbeats 4000000
set_option synthInstance.maxHeartbeats 400000
set_option synthInstance.maxSize 2000
attribute [local irreducible] CW OW RW thenK blockK
attribute [local irreducible] scopeK loopK TRW ATW


@[reducible] def kfn (f : FuncId) : Value := .func (.func f) #[] #[]
theorem windowFirst (s p : Int) (bk : Nat) (fv : Value) (sf : Sng fv) (L : Chunk)
    [hk : InC L bk (.cells #[.int .i64 1, kfn 261, .int .i64 2, kfn 263, .int .i64 3, kfn 264, .int .i64 4, kfn 265] 353 (0, 0))]
    (v1 : ∀ L' [MemC L L'], VP Tryz.prog fv [.agg #[.int .i64 1, kfn 261]] L' (fun u L'' => (∃ c q, u = .tuple #[siteV 1 s c q, .bool (kindB 1 s p)]) ∧ L' = L'') noPanic)
    (v2 : ∀ L' [MemC L L'], VP Tryz.prog fv [.agg #[.int .i64 2, kfn 263]] L' (fun u L'' => (∃ c q, u = .tuple #[siteV 2 s c q, .bool (kindB 2 s p)]) ∧ L' = L'') noPanic)
    (v3 : ∀ L' [MemC L L'], VP Tryz.prog fv [.agg #[.int .i64 3, kfn 264]] L' (fun u L'' => (∃ c q, u = .tuple #[siteV 3 s c q, .bool (kindB 3 s p)]) ∧ L' = L'') noPanic)
    (v4 : ∀ L' [MemC L L'], VP Tryz.prog fv [.agg #[.int .i64 4, kfn 265]] L' (fun u L'' => (∃ c q, u = .tuple #[siteV 4 s c q, .bool (kindB 4 s p)]) ∧ L' = L'') noPanic) :
    Fn1 Tryz.prog 251 [.slice (some ⟨bk, 0, none⟩) 4 4, fv] L
      (fun u L' => (∃ s' c q, u = .tuple #[siteV (slotKind s p) s' c q, .bool (decide (slotKind s p ≠ 0))] ∧ (slotKind s p ≠ 0 → s' = s)) ∧ L = L') := by
  intro w0; refine Spec.enter2 Tryz.func251 rfl Tryz.ntmps251 (by decide) ?_
  have hk' := hk
  have fin : ∀ {j : Int}, slotKind s p = j → j ≠ 0 → ∀ c q, ∃ s' c' q', (Value.tuple #[siteV j s c q, .bool true] = .tuple #[siteV (slotKind s p) s' c' q', .bool (decide (slotKind s p ≠ 0))] ∧ (slotKind s p ≠ 0 → s' = s)) := fun e h c q => ⟨s, c, q, by rw [e, decide_eq_true h], fun _ => rfl⟩
  repeat' (first|refine Gc0 fun _=>?_|refine Gc1 ?_|refine Gc2 (fun _=>?_) fun _=>?_|refine Gc3 ?_|refine Gc4 fun _=>?_|fail)
  refine CW.loopU 5 ?_
  repeat' (first|refine Gc0 fun _=>?_|refine Gc1 ?_|refine Gc2 (fun _=>?_) fun _=>?_|refine Gc3 ?_|refine Gc4 fun _=>?_|fail)
  refine OW.callV1 (v1 _) ?_
  rintro _ _ ⟨⟨c, q, rfl⟩, rfl⟩
  cases h1 : kindB 1 s p with
  | true =>
    repeat' (first|refine Gc0 fun _=>?_|refine Gc1 ?_|refine Gc2 (fun _=>?_) fun _=>?_|refine Gc3 ?_|refine Gc4 fun _=>?_|fail)
    exact bodyK.retD L (Res.of2 Tryz.results251) ⟨fin (kindB_is (.inl rfl) (fun i a b => by omega) h1) (by decide) _ _, rfl⟩
  | false =>
    repeat' (first|refine Gc0 fun _=>?_|refine Gc1 ?_|refine Gc2 (fun _=>?_) fun _=>?_|refine Gc3 ?_|refine Gc4 fun _=>?_|fail)
    rw [show ((0 : Int) + 1).toNat = 1 from rfl]
    repeat' (first|refine Gc0 fun _=>?_|refine Gc1 ?_|refine Gc2 (fun _=>?_) fun _=>?_|refine Gc3 ?_|refine Gc4 fun _=>?_|fail)
    refine OW.callV1 (v2 _) ?_
    rintro _ _ ⟨⟨c, q, rfl⟩, rfl⟩
    cases h2 : kindB 2 s p with
    | true =>
      repeat' (first|refine Gc0 fun _=>?_|refine Gc1 ?_|refine Gc2 (fun _=>?_) fun _=>?_|refine Gc3 ?_|refine Gc4 fun _=>?_|fail)
      exact bodyK.retD L (Res.of2 Tryz.results251) ⟨fin (kindB_is (.inr (.inl rfl)) (fun i a b => (show 1 = i by omega) ▸ h1) h2) (by decide) _ _, rfl⟩
    | false =>
      repeat' (first|refine Gc0 fun _=>?_|refine Gc1 ?_|refine Gc2 (fun _=>?_) fun _=>?_|refine Gc3 ?_|refine Gc4 fun _=>?_|fail)
      rw [show ((0 : Int) + 1 + 1).toNat = 2 from rfl]
      repeat' (first|refine Gc0 fun _=>?_|refine Gc1 ?_|refine Gc2 (fun _=>?_) fun _=>?_|refine Gc3 ?_|refine Gc4 fun _=>?_|fail)
      refine OW.callV1 (v3 _) ?_
      rintro _ _ ⟨⟨c, q, rfl⟩, rfl⟩
      cases h3 : kindB 3 s p with
      | true =>
        repeat' (first|refine Gc0 fun _=>?_|refine Gc1 ?_|refine Gc2 (fun _=>?_) fun _=>?_|refine Gc3 ?_|refine Gc4 fun _=>?_|fail)
        exact bodyK.retD L (Res.of2 Tryz.results251) ⟨fin (kindB_is (.inr (.inr (.inl rfl))) (fun i a b => by
          rcases (show i = 1 ∨ i = 2 by omega) with rfl | rfl
          · exact h1
          · exact h2) h3) (by decide) _ _, rfl⟩
      | false =>
        repeat' (first|refine Gc0 fun _=>?_|refine Gc1 ?_|refine Gc2 (fun _=>?_) fun _=>?_|refine Gc3 ?_|refine Gc4 fun _=>?_|fail)
        rw [show ((0 : Int) + 1 + 1 + 1).toNat = 3 from rfl]
        repeat' (first|refine Gc0 fun _=>?_|refine Gc1 ?_|refine Gc2 (fun _=>?_) fun _=>?_|refine Gc3 ?_|refine Gc4 fun _=>?_|fail)
        refine OW.callV1 (v4 _) ?_
        rintro _ _ ⟨⟨c, q, rfl⟩, rfl⟩
        cases h4 : kindB 4 s p with
        | true =>
          repeat' (first|refine Gc0 fun _=>?_|refine Gc1 ?_|refine Gc2 (fun _=>?_) fun _=>?_|refine Gc3 ?_|refine Gc4 fun _=>?_|fail)
          exact bodyK.retD L (Res.of2 Tryz.results251) ⟨fin (kindB_is (.inr (.inr (.inr rfl))) (fun i a b => by
            rcases (show i = 1 ∨ i = 2 ∨ i = 3 by omega) with rfl | rfl | rfl
            · exact h1
            · exact h2
            · exact h3) h4) (by decide) _ _, rfl⟩
        | false =>
          repeat' (first|refine Gc0 fun _=>?_|refine Gc1 ?_|refine Gc2 (fun _=>?_) fun _=>?_|refine Gc3 ?_|refine Gc4 fun _=>?_|fail)
          have h0 := kindB_none.2 ⟨h1, h2, h3, h4⟩
          exact bodyK.retD L (Res.of2 Tryz.results251) ⟨⟨0, 0, 0, by rw [h0]; rfl, fun h => absurd h0 h⟩, rfl⟩

theorem places1 (fv : Value) (J : Nat → Chunk → Prop) (E : Chunk → Prop) (L : Chunk) (h0 : J 0 L)
    (hy : ∀ s L', s < 4 → J s L' → VP Tryz.prog fv [.agg #[.int .i64 (s : Int)]] L' (fun u L'' => (u = .bool true ∧ J (s + 1) L'') ∨ (u = .bool false ∧ E L'')) noPanic) (hE : ∀ L', J 4 L' → E L') :
    Fn1 Tryz.prog 260 [fv] L (fun _ L' => E L') := by
  intro w0; refine Spec.enter1 Tryz.func260 rfl Tryz.ntmps260 (by decide) ?_
  repeat' (first|refine Ga0 fun _=>?_|refine Ga1 ?_|refine Ga2 (fun _=>?_) fun _=>?_|refine Ga3 ?_|refine Ga4 fun _=>?_|fail)
  refine CW.count 4 (fun i ρ ds L' => ds = [] ∧ J i L' ∧ Ev ρ 0 fv ∧ Ev ρ 3 (.int .i64 (i : Int))) ⟨rfl, h0, inferInstance, inferInstance⟩ ?_
  rintro i ρ ds L' hi ⟨rfl, hJ, e0, e3⟩
  by_cases hlt : i < 4
  · repeat' (first|refine Ga0 fun _=>?_|refine Ga1 ?_|refine Ga2 (fun _=>?_) fun _=>?_|refine Ga3 ?_|refine Ga4 fun _=>?_|fail)
    refine OW.callV1 (hy i L' hlt hJ) ?_
    rintro _ L'' (⟨rfl, hJ'⟩ | ⟨rfl, hE'⟩)
    · repeat' (first|refine Ga0 fun _=>?_|refine Ga1 ?_|refine Ga2 (fun _=>?_) fun _=>?_|refine Ga3 ?_|refine Ga4 fun _=>?_|fail)
      exact ⟨hlt, rfl, hJ', inferInstance, inferInstance⟩
    · repeat' (first|refine Ga0 fun _=>?_|refine Ga1 ?_|refine Ga2 (fun _=>?_) fun _=>?_|refine Ga3 ?_|refine Ga4 fun _=>?_|fail)
      exact bodyK.ret (Res.zero Tryz.results260) hE'
  · obtain rfl : i = 4 := by omega
    repeat' (first|refine Ga0 fun _=>?_|refine Ga1 ?_|refine Ga2 (fun _=>?_) fun _=>?_|refine Ga3 ?_|refine Ga4 fun _=>?_|fail)
    exact bodyK.nrm (Res.zero Tryz.results260) (hE _ hJ)
theorem windowPlaces (L : Chunk) : Fn1 Tryz.prog 250 [] L (fun u L' => u = kfn 260 ∧ L = L') := by
  intro w0; refine Spec.enter0 Tryz.func250 rfl Tryz.ntmps250 ?_
  repeat' (first|refine Ga0 fun _=>?_|refine Ga1 ?_|refine Ga2 (fun _=>?_) fun _=>?_|refine Ga3 ?_|refine Ga4 fun _=>?_|fail)
  exact bodyK.ret (Res.one Tryz.results250) ⟨rfl, rfl⟩

/-- The kind behind the first slots. -/
def siteUpto (p : Int) : Nat → Option (Int × Int)
  | 0 => none
  | s + 1 => match siteUpto p s with
    | some x => some x
    | none => if slotKind s p ≠ 0 then some (slotKind s p, (s : Int)) else none
theorem siteUpto_some {p : Int} {x : Int × Int} : ∀ {s : Nat} (t : Nat), siteUpto p s = some x → siteUpto p (s + t) = some x
  | _, 0, h => h
  | s, t + 1, h => by
    have := siteUpto_some t h
    show (match siteUpto p (s + t) with | some x => some x | none => _) = _
    rw [this]
theorem site_upto (p : Int) : (siteUpto p 4).getD (0, 0) = site p := by
  simp only [siteUpto, site]
  repeat' split
  all_goals simp_all
theorem ofVP (j s p : Int) (fv : Value) (sf : Sng fv) (h : 0 ≤ s ∧ s < 4) (hp : 0 ≤ p ∧ p < 65536) (b1 b2 : Nat) (L L' : Chunk) [hm : MemC L L'] [h1 : InC L b1 (.cells #[.int .i64 s] 218 (0, 0))] [h2 : InC L b2 (.cells #[.int .i64 p] 3 (0, 0))]
    (hv : ∀ L, VP Tryz.prog fv [.agg #[.int .i64 s], .int .i64 p, .int .i64 (p - 4096 * (s + 1))] L (fun u L' => (∃ k s' c q, u = .tuple #[siteV k s' c q, .bool (kindB j s p)]) ∧ L = L') noPanic) :
    VP Tryz.prog (.func (.func 253) #[] #[.pointer (some ⟨b1, 0, none⟩), .pointer (some ⟨b2, 0, none⟩)]) [.agg #[.int .i64 j, fv]] L' (fun u L'' => (∃ c q, u = .tuple #[siteV j s c q, .bool (kindB j s p)]) ∧ L' = L'') noPanic :=
  FnP.vp (first := #[]) (cap := #[.pointer (some ⟨b1, 0, none⟩), .pointer (some ⟨b2, 0, none⟩)]) (@ofOne j s p fv sf h hp b1 b2 L' ⟨hm.out _ h1.out⟩ ⟨hm.out _ h2.out⟩ hv)
theorem windowOf (p : Int) (hp : 0 ≤ p ∧ p < 65536) (L : Chunk) : Fn1 Tryz.prog 222 [.int .i64 p] L (fun u L' => (∃ c q, u = .tuple #[siteV (site p).1 (site p).2 c q, .int .i64 0]) ∧ L = L') := by
  intro w0; refine Spec.enterM1 Tryz.func222 rfl Tryz.ntmps222 (by decide) ?_
  have hp' := hp
  obtain ⟨p1, p2⟩ := hp'
  repeat' (first|refine Ge0 fun _=>?_|refine Ge1 ?_|refine Ge2 (fun _=>?_) fun _=>?_|refine Ge3 ?_|refine Ge4 fun _=>?_|fail)
  refine OW.call (windowFits 65536 _ _ _ (Rd.blk (b := _) (l := [_]) rfl (Nat.le_refl _))) ?_
  rintro _ _ ⟨rfl, rfl⟩
  rw [decide_eq_true hp]
  repeat' (first|refine Ge0 fun _=>?_|refine Ge1 ?_|refine Ge2 (fun _=>?_) fun _=>?_|refine Ge3 ?_|refine Ge4 fun _=>?_|fail)
  rename_i bp bs bx
  refine OW.call (windowPlaces _) ?_
  rintro _ _ ⟨rfl, rfl⟩
  refine OW.drop (L' := (bs, .cells #[.int .i64 0, .int .i64 0, .int .i64 0, .int .i64 0] 274 (0, 0)) :: (bp, .cells #[.int .i64 p] 3 (0, 0)) :: L) (List.sublist_cons_self ..) ?_
  repeat' (first|refine Ge0 fun _=>?_|refine Ge1 ?_|refine Ge2 (fun _=>?_) fun _=>?_|refine Ge3 ?_|refine Ge4 fun _=>?_|fail)
  refine CW.rangeFunc (fun lp DD rec hrec => ?_)
  refine (places1 (.func (.yield lp) #[] #[])
    (fun s Lx => (∃ N, Lx = N ++ (lp, rec .ready none) :: (DD, .deferred (some [])) :: (bs, .cells #[.int .i64 0, .int .i64 0, .int .i64 0, .int .i64 0] 274 (0, 0)) :: (bp, .cells #[.int .i64 p] 3 (0, 0)) :: L) ∧ siteUpto p s = none)
    (fun Lx => (∃ N, Lx = N ++ (lp, rec .ready none) :: (DD, .deferred (some [])) :: (bs, .cells #[.int .i64 0, .int .i64 0, .int .i64 0, .int .i64 0] 274 (0, 0)) :: (bp, .cells #[.int .i64 p] 3 (0, 0)) :: L ∧ siteUpto p 4 = none) ∨
      (∃ N k s c q, Lx = N ++ (lp, rec .done (some (.exit 0))) :: (DD, .deferred (some [])) :: (bs, .cells #[.int .i64 k, .int .i64 s, .int .i64 c, .int .i64 q] 274 (0, 0)) :: (bp, .cells #[.int .i64 p] 3 (0, 0)) :: L ∧ siteUpto p 4 = some (k, s)))
    _ ⟨⟨[], rfl⟩, rfl⟩ ?_ ?_ w0).mono ?_ (fun _ _ h => h.elim)
  · rintro s _ hs ⟨⟨N, rfl⟩, hnone⟩
    refine VP.yield1 hrec (by decide) (fun w0 => ?_)
    repeat' (first|refine Ge0 fun _=>?_|refine Ge1 ?_|refine Ge2 (fun _=>?_) fun _=>?_|refine Ge3 ?_|refine Ge4 fun _=>?_|fail)
    refine beginR ?_
    repeat' (first|refine Ge0 fun _=>?_|refine Ge1 ?_|refine Ge2 (fun _=>?_) fun _=>?_|refine Ge3 ?_|refine Ge4 fun _=>?_|fail)
    rename_i b4
    refine OW.call (windowKinds _) ?_
    rintro _ _ ⟨bk, rfl, rfl⟩
    repeat' (first|refine Ge0 fun _=>?_|refine Ge1 ?_|refine Ge2 (fun _=>?_) fun _=>?_|refine Ge3 ?_|refine Ge4 fun _=>?_|fail)
    have hs4 : 0 ≤ (s : Int) ∧ (s : Int) < 4 := by omega
    refine OW.call (windowFirst (s : Int) p bk _ inferInstance _ ?_ ?_ ?_ ?_) ?_
    · exact fun L' hm => @ofVP 1 s p _ inferInstance hs4 hp b4 bp _ L' hm inferInstance inferInstance (fun L => FnP.vp (first := #[]) (cap := #[]) (kinds1 s p _ hs4 (by omega) L))
    · exact fun L' hm => @ofVP 2 s p _ inferInstance hs4 hp b4 bp _ L' hm inferInstance inferInstance (fun L => FnP.vp (first := #[]) (cap := #[]) (kinds2 s p _ (by omega) L))
    · exact fun L' hm => @ofVP 3 s p _ inferInstance hs4 hp b4 bp _ L' hm inferInstance inferInstance (fun L => FnP.vp (first := #[]) (cap := #[]) (kinds3 s p _ L))
    · exact fun L' hm => @ofVP 4 s p _ inferInstance hs4 hp b4 bp _ L' hm inferInstance inferInstance (fun L => FnP.vp (first := #[]) (cap := #[]) (kinds4 s p _ L))
    rintro _ _ ⟨⟨s', c, q, rfl, hs'⟩, rfl⟩
    by_cases hk : slotKind s p ≠ 0
    · rw [decide_eq_true hk]
      obtain rfl := hs' hk
      repeat' (first|refine Ge0 fun _=>?_|refine Ge1 ?_|refine Ge2 (fun _=>?_) fun _=>?_|refine Ge3 ?_|refine Ge4 fun _=>?_|fail)
      refine roundK.exit ?_
      refine .inr ⟨rfl, .inr ⟨_ :: _ :: _ :: N, slotKind s p, s, c, q, rfl, ?_⟩⟩
      have h1 : siteUpto p (s + 1) = some (slotKind (s : Int) p, (s : Int)) := by simp only [siteUpto, hnone, if_pos hk]
      have h2 := siteUpto_some (3 - s) h1
      rwa [show s + 1 + (3 - s) = 4 by omega] at h2
    · rw [decide_eq_false hk]
      repeat' (first|refine Ge0 fun _=>?_|refine Ge1 ?_|refine Ge2 (fun _=>?_) fun _=>?_|refine Ge3 ?_|refine Ge4 fun _=>?_|fail)
      refine roundK.nrm ?_
      exact .inl ⟨rfl, ⟨_ :: _ :: _ :: N, rfl⟩, by simp only [siteUpto, hnone, if_neg hk]⟩
  · rintro _ ⟨⟨N, rfl⟩, hn⟩
    exact .inl ⟨N, rfl, hn⟩
  · rintro u _ (⟨N, rfl, hn⟩ | ⟨N, k, s, c, q, rfl, hn⟩)
    · refine rangeK.nrm ?_
      repeat' (first|refine Ge0 fun _=>?_|refine Ge1 ?_|refine Ge2 (fun _=>?_) fun _=>?_|refine Ge3 ?_|refine Ge4 fun _=>?_|fail)
      refine bodyM.retM L (Res.of2 Tryz.results222) ⟨?_, rfl⟩
      have := site_upto p
      rw [hn] at this
      exact ⟨_, _, by rw [← this]; rfl⟩
    · refine rangeK.jump (c := .exit 0) ?_
      repeat' (first|refine Ge0 fun _=>?_|refine Ge1 ?_|refine Ge2 (fun _=>?_) fun _=>?_|refine Ge3 ?_|refine Ge4 fun _=>?_|fail)
      refine bodyM.retM L (Res.of2 Tryz.results222) ⟨?_, rfl⟩
      have := site_upto p
      rw [hn] at this
      exact ⟨_, _, by rw [← this]; rfl⟩
end Go.Proofs.YtmnhooepaemlcaaGreat

namespace Go.Proofs.YtmnhooepaemlcaaGreat
open Go Go.Pw Go.Pw.Sc Go.Pw.Md
set_option maxRecDepth 100000
set_option maxHeartbeats 4000000
set_option synthInstance.maxHeartbeats 400000
set_option synthInstance.maxSize 2000
attribute [local irreducible] CW OW RW thenK blockK
attribute [local irreducible] scopeK loopK TRW ATW


theorem and_mask (n : Int) (k : Nat) (hk : k ≤ 63) (h0 : 0 ≤ n) (h1 : n < 18446744073709551616) : bitsV .and .u64 n ((2 ^ k - 1 : Nat) : Int) = n % (2 ^ k : Nat) := by
  obtain ⟨a, rfl⟩ := Int.eq_ofNat_of_zero_le h0
  have ha : a < 2 ^ 64 := by omega
  have hm : 2 ^ k - 1 < 2 ^ 64 := by have : 2 ^ k ≤ 2 ^ 63 := Nat.pow_le_pow_right (by decide) hk; omega
  have e1 : BitVec.ofInt 64 ((a : Nat) : Int) = BitVec.ofNat 64 a := BitVec.ofInt_natCast 64 a
  have e2 : BitVec.ofInt 64 ((2 ^ k - 1 : Nat) : Int) = BitVec.ofNat 64 (2 ^ k - 1) := BitVec.ofInt_natCast 64 _
  have e3 : (BitVec.ofNat 64 a &&& BitVec.ofNat 64 (2 ^ k - 1)).toNat = a % 2 ^ k := by
    rw [BitVec.toNat_and, BitVec.toNat_ofNat, BitVec.toNat_ofNat, Nat.mod_eq_of_lt ha, Nat.mod_eq_of_lt hm, Nat.and_two_pow_sub_one_eq_mod]
  have e4 : bitsV .and .u64 ((a : Nat) : Int) ((2 ^ k - 1 : Nat) : Int) = IntKind.u64.wrap ((BitVec.ofInt 64 ((a : Nat) : Int) &&& BitVec.ofInt 64 ((2 ^ k - 1 : Nat) : Int)).toNat : Int) := rfl
  have h5 : a % 2 ^ k ≤ a := Nat.mod_le _ _
  have h6 : (a : Int) % ((2 ^ k : Nat) : Int) = ((a % 2 ^ k : Nat) : Int) := (Int.natCast_emod a (2 ^ k)).symm
  rw [e4, e1, e2, e3, wrap_in (k := .u64) (by constructor <;> omega)]
  simpa using h6.symm
theorem and32 {n : Int} (h0 : 0 ≤ n) (h1 : n < 18446744073709551616) : bitsV .and .u64 n 4294967295 = n % 4294967296 := by
  have := and_mask n 32 (by decide) h0 h1
  simpa using this
theorem shr32 {n : Int} : shrV .u64 n 32 = n / 4294967296 := by
  unfold shrV
  rw [show min (32 : Int).toNat IntKind.u64.bits = 32 from rfl, show (2 : Int) ^ 32 = 4294967296 from rfl, Int.fdiv_eq_ediv_of_nonneg _ (by decide)]

/-- How many bits are set, as it is reckoned. -/
def popE (n : Int) : Int :=
  let w := IntKind.u64.wrap
  let a := w (bitsV .and .u64 (shrV .u64 n 1) 6148914691236517205 + bitsV .and .u64 n 6148914691236517205)
  let b := w (bitsV .and .u64 (shrV .u64 a 2) 3689348814741910323 + bitsV .and .u64 a 3689348814741910323)
  let c := bitsV .and .u64 (w (shrV .u64 b 4 + b)) 1085102592571150095
  let d := w (c + shrV .u64 c 8)
  let e := w (d + shrV .u64 d 16)
  let f := w (e + shrV .u64 e 32)
  bitsV .and .i64 (IntKind.i64.wrap f) 127
theorem onesCount (n : Int) (L : Chunk) : Fn1 Tryz.prog 236 [.int .u64 n] L (fun u L' => u = .int .i64 (popE n) ∧ L = L') := by
  intro w0; refine Spec.enter1 Tryz.func236 rfl Tryz.ntmps236 (by decide) ?_
  repeat' (first|refine Ga0 fun _=>?_|refine Ga1 ?_|refine Ga2 (fun _=>?_) fun _=>?_|refine Ga3 ?_|refine Ga4 fun _=>?_|fail)
  exact bodyK.ret (Res.one Tryz.results236) ⟨rfl, rfl⟩
theorem pop_small : ∀ i : Fin 257, (decide (popE ((i.val : Nat) : Int) = 1) = decide (isMult ((i.val : Nat) : Int))) := by decide +kernel
end Go.Proofs.YtmnhooepaemlcaaGreat

namespace Go.Proofs.YtmnhooepaemlcaaGreat
open Go Go.Pw Go.Pw.Sc Go.Pw.Md
set_option maxRecDepth 100000
set_option maxHeartbeats 4000000
set_option synthInstance.maxHeartbeats 400000
set_option synthInstance.maxSize 2000
attribute [local irreducible] CW OW RW thenK blockK
attribute [local irreducible] scopeK loopK TRW ATW


theorem roundPower (n : Int) (h0 : 0 ≤ n) (L : Chunk) : Fn1 Tryz.prog 213 [.int .u64 n] L (fun u L' => (∃ b, u = .bool b ∧ (n ≤ 256 → b = decide (isMult n))) ∧ L = L') := by
  intro w0; refine Spec.enter1 Tryz.func213 rfl Tryz.ntmps213 (by decide) ?_
  have hb : n ≤ 256 → decide (popE n = 1) = decide (isMult n) := fun h => by
    have := pop_small ⟨n.toNat, by omega⟩
    simp only [Int.toNat_of_nonneg h0] at this
    exact this
  repeat' (first|refine Ga0 fun _=>?_|refine Ga1 ?_|refine Ga2 (fun _=>?_) fun _=>?_|refine Ga3 ?_|refine Ga4 fun _=>?_|fail)
  refine OW.call (onesCount n _) ?_
  rintro _ _ ⟨rfl, rfl⟩
  repeat' (first|refine Ga0 fun _=>?_|refine Ga1 ?_|refine Ga2 (fun _=>?_) fun _=>?_|refine Ga3 ?_|refine Ga4 fun _=>?_|fail)
  all_goals refine bodyK.ret (Res.one Tryz.results213) ⟨⟨_, rfl, fun h => ?_⟩, rfl⟩
  · rw [← hb h]; exact (decide_eq_true (by assumption)).symm
  · rw [← hb h]; exact (decide_eq_false (by assumption)).symm

theorem sizePayloads (L : Chunk) : Fn1 Tryz.prog 215 [] L (fun u L' => u = .agg #[.int .i64 16, .int .i64 32, .int .i64 48, .int .i64 64, .int .i64 96, .int .i64 128, .int .i64 192, .int .i64 256] ∧ L = L') := by
  intro w0; refine Spec.enter0 Tryz.func215 rfl Tryz.ntmps215 ?_
  repeat' (first|refine Ga0 fun _=>?_|refine Ga1 ?_|refine Ga2 (fun _=>?_) fun _=>?_|refine Ga3 ?_|refine Ga4 fun _=>?_|fail)
  exact bodyK.retD L (Res.of1 Tryz.results215) ⟨rfl, rfl⟩

theorem sizeClass1 (x n : Int) (bo : Nat) (L : Chunk) [hin : InC L bo (.cells #[.int .i64 n] 3 (0, 0))] :
    Fn1 Tryz.prog 238 [.int .i64 x, .pointer (some ⟨bo, 0, none⟩)] L (fun u L' => u = .bool (decide (0 ≤ n ∧ n ≤ x)) ∧ L = L') := by
  intro w0; refine Spec.enter2 Tryz.func238 rfl Tryz.ntmps238 (by decide) ?_
  have h0 := hin
  repeat' (first|refine Ga0 fun _=>?_|refine Ga1 ?_|refine Ga2 (fun _=>?_) fun _=>?_|refine Ga3 ?_|refine Ga4 fun _=>?_|fail)
  all_goals exact bodyK.retD L (Res.one Tryz.results238) ⟨(congrArg Value.bool (by first | exact (decide_eq_true (by omega)).symm | exact (decide_eq_false (by omega)).symm)), rfl⟩
def pays : List Int := [16, 32, 48, 64, 96, 128, 192, 256]
theorem sizeFirst (p : Int → Bool) (v fv : Value) (sv : Sng v) (sf : Sng fv) (L : Chunk) (h : Rd L 1 v pays.length (iv pays)) (hf : ∀ x ∈ pays, VP Tryz.prog fv [.int .i64 x] L (fun u L' => u = .bool (p x) ∧ L = L') noPanic) :
    Fn1 Tryz.prog 237 [fv, v] L (fun u L' => u = .int .i64 ((pays.findIdx? p).elim (-1) fun n => (n : Int)) ∧ L = L') := by
  intro w0; refine Spec.enter2 Tryz.func237 rfl Tryz.ntmps237 (by decide) ?_
  repeat' (first|refine Ga0 fun _=>?_|refine Ga1 ?_|refine Ga2 (fun _=>?_) fun _=>?_|refine Ga3 ?_|refine Ga4 fun _=>?_|fail)
  refine OW.call (indexFuncInt pays p v fv L h (by decide) hf) ?_
  rintro _ _ ⟨rfl, rfl⟩
  repeat' (first|refine Ga0 fun _=>?_|refine Ga1 ?_|refine Ga2 (fun _=>?_) fun _=>?_|refine Ga3 ?_|refine Ga4 fun _=>?_|fail)
  exact bodyK.ret (Res.one Tryz.results237) ⟨rfl, rfl⟩
theorem pays_idx (n : Int) (h : 0 ≤ n) : ((pays.findIdx? fun x => decide (0 ≤ n ∧ n ≤ x)).elim (-1) fun n => (n : Int)) = if n ≤ 256 then clsOf n else -1 := by
  unfold pays clsOf
  simp only [List.findIdx?_cons, List.findIdx?_nil, h, true_and]
  by_cases h1 : n ≤ 16
  · have h0 : n ≤ 256 := by omega
    simp [h1, h0]
  by_cases h2 : n ≤ 32
  · have h0 : n ≤ 256 := by omega
    simp [h1, h2, h0]
  by_cases h3 : n ≤ 48
  · have h0 : n ≤ 256 := by omega
    simp [h1, h2, h3, h0]
  by_cases h4 : n ≤ 64
  · have h0 : n ≤ 256 := by omega
    simp [h1, h2, h3, h4, h0]
  by_cases h5 : n ≤ 96
  · have h0 : n ≤ 256 := by omega
    simp [h1, h2, h3, h4, h5, h0]
  by_cases h6 : n ≤ 128
  · have h0 : n ≤ 256 := by omega
    simp [h1, h2, h3, h4, h5, h6, h0]
  by_cases h7 : n ≤ 192
  · have h0 : n ≤ 256 := by omega
    simp [h1, h2, h3, h4, h5, h6, h7, h0]
  by_cases h8 : n ≤ 256
  · simp [h1, h2, h3, h4, h5, h6, h7, h8]
  · simp [h1, h2, h3, h4, h5, h6, h7, h8]
theorem sizeClass (n : Int) (h : 0 ≤ n) (h1 : n ≤ 262144) (L : Chunk) : Fn1 Tryz.prog 214 [.int .i64 n] L
    (fun u L' => u = .tuple #[.int .i64 (if n ≤ 256 then clsOf n else 0), .bool (decide (n ≤ 256))] ∧ L = L') := by
  intro w0; refine Spec.enter1 Tryz.func214 rfl Tryz.ntmps214 (by decide) ?_
  repeat' (first|refine Ga0 fun _=>?_|refine Ga1 ?_|refine Ga2 (fun _=>?_) fun _=>?_|refine Ga3 ?_|refine Ga4 fun _=>?_|fail)
  rename_i bo
  refine OW.call (sizePayloads _) ?_
  rintro _ _ ⟨rfl, rfl⟩
  repeat' (first|refine Ga0 fun _=>?_|refine Ga1 ?_|refine Ga2 (fun _=>?_) fun _=>?_|refine Ga3 ?_|refine Ga4 fun _=>?_|fail)
  rename_i ba
  refine OW.call (sizeFirst (fun x => decide (0 ≤ n ∧ n ≤ x)) _ _ inferInstance inferInstance _ (Rd.blk (b := ba) (l := iv pays) rfl (Nat.le_refl _)) (fun x _ => FnP.vp (first := #[]) (cap := #[.pointer (some ⟨bo, 0, none⟩)]) (sizeClass1 x n bo _))) ?_
  rintro _ _ ⟨rfl, rfl⟩
  rw [pays_idx n h]
  by_cases h2 : n ≤ 256
  · have hc := clsOf_range n
    simp only [if_pos h2]
    repeat' (first|refine Ga0 fun _=>?_|refine Ga1 ?_|refine Ga2 (fun _=>?_) fun _=>?_|refine Ga3 ?_|refine Ga4 fun _=>?_|fail)
    exact bodyK.retD L (Res.two Tryz.results214) ⟨by rw [decide_eq_true h2, Int.max_eq_right hc.1], rfl⟩
  · simp only [if_neg h2]
    repeat' (first|refine Ga0 fun _=>?_|refine Ga1 ?_|refine Ga2 (fun _=>?_) fun _=>?_|refine Ga3 ?_|refine Ga4 fun _=>?_|fail)
    exact bodyK.retD L (Res.two Tryz.results214) ⟨by rw [decide_eq_false h2]; rfl, rfl⟩

theorem stepNone (n : Int) (L : Chunk) : Fn1 Tryz.prog 239 [.int .u64 n] L (fun u L' => u = .bool (decide (n = 0)) ∧ L = L') := by
  intro w0; refine Spec.enter1 Tryz.func239 rfl Tryz.ntmps239 (by decide) ?_
  repeat' (first|refine Ga0 fun _=>?_|refine Ga1 ?_|refine Ga2 (fun _=>?_) fun _=>?_|refine Ga3 ?_|refine Ga4 fun _=>?_|fail)
  all_goals exact bodyK.ret (Res.one Tryz.results239) ⟨(congrArg Value.bool (by first | exact (decide_eq_true (by omega)).symm | exact (decide_eq_false (by omega)).symm)), rfl⟩
theorem numberDown (s n : Int) (hs : 0 < s) (h0 : 0 ≤ n ∧ n ≤ 18446744073709551615) (L : Chunk) : Fn1 Tryz.prog 240 [.agg #[.int .u64 s, .int .u64 n]] L (fun u L' => u = .int .u64 (n - n % s) ∧ L = L') := by
  intro w0; refine Spec.enter1 Tryz.func240 rfl Tryz.ntmps240 (by decide) ?_
  obtain ⟨h1, h2⟩ := h0
  have h3 := Int.emod_nonneg n (by omega : s ≠ 0)
  have h4 : n % s ≤ n := by
    have e := Int.emod_add_mul_ediv n s
    have := Int.mul_nonneg (by omega : 0 ≤ s) (Int.ediv_nonneg h1 (by omega : 0 ≤ s))
    omega
  repeat' (first|refine Gj0 fun _=>?_|refine Gj1 ?_|refine CW.drawsP (id := 1) [0,1,2,3,4,5,6,7,8] mixed (by kernel_rfl) ?_|refine Gj2 (fun _=>?_) fun _=>?_|refine Gj3 ?_|refine Gj4 fun _=>?_|fail)
  exact bodyK.retD L (Res.one Tryz.results240) ⟨rfl, rfl⟩

theorem roundMany (n s : Int) (hs : 0 < s) (hs2 : s ≤ 256) (h0 : 0 ≤ n ∧ n ≤ 262144) (L : Chunk) : Fn1 Tryz.prog 216 [.int .u64 n, .int .u64 s] L (fun u L' => u = .tuple #[.int .u64 (if n % s = 0 then n / s else n / s + 1), .int .i64 0] ∧ L = L') := by
  intro w0; refine Spec.enter2 Tryz.func216 rfl Tryz.ntmps216 (by decide) ?_
  have h0' := h0
  obtain ⟨h1, h2⟩ := h0'
  have h3 := Int.ediv_nonneg h1 (by omega : 0 ≤ s)
  have h4 : n / s ≤ n := Int.ediv_le_self s h1
  have e1 : n / s = n / s := rfl
  repeat' (first|refine Gb0 fun _=>?_|refine Gb1 ?_|refine Gb2 (fun _=>?_) fun _=>?_|refine Gb3 ?_|refine Gb4 fun _=>?_|fail)
  refine OW.call (stepNone s _) ?_
  rintro _ _ ⟨rfl, rfl⟩
  rw [decide_eq_false (by omega : ¬ s = 0)]
  repeat' (first|refine Gb0 fun _=>?_|refine Gb1 ?_|refine Gb2 (fun _=>?_) fun _=>?_|refine Gb3 ?_|refine Gb4 fun _=>?_|fail)
  refine OW.call (numberDown s n hs ⟨h1, by omega⟩ _) ?_
  rintro _ _ ⟨rfl, rfl⟩
  by_cases hm : n % s = 0
  · repeat' (first|refine Gb0 fun _=>?_|refine Gb1 ?_|refine Gb2 (fun _=>?_) fun _=>?_|refine Gb3 ?_|refine Gb4 fun _=>?_|fail)
    exact bodyK.retD L (Res.two Tryz.results216) ⟨by rw [if_pos hm], rfl⟩
  · repeat' (first|refine Gb0 fun _=>?_|refine Gb1 ?_|refine Gb2 (fun _=>?_) fun _=>?_|refine Gb3 ?_|refine Gb4 fun _=>?_|fail)
    exact bodyK.retD L (Res.two Tryz.results216) ⟨by rw [if_neg hm], rfl⟩

theorem needV_eq {size : Int} (h : 0 ≤ size) : (if max 1 size % 256 = 0 then max 1 size / 256 else max 1 size / 256 + 1) = (max 1 size + 255) / 256 := by split <;> omega
/-- What a size needs, as a value. -/
@[reducible] def needV (o : Option NeedM) : Value := match o with
  | some x => .tuple #[.agg #[.bool x.small, .int .i64 x.cls, .int .i64 x.pages, .int .i64 x.charge], .int .i64 0]
  | none => .tuple #[.agg #[.bool false, .int .i64 0, .int .i64 0, .int .i64 0], .int .i64 2]
theorem sizeOf (size mult : Int) (h : 0 ≤ size) (hm : 0 ≤ mult) (L : Chunk) : Fn1 Tryz.prog 177 [.int .u64 size, .int .u64 mult] L (fun u L' => u = needV (needOf size mult) ∧ L = L') := by
  intro w0; refine Spec.enter2 Tryz.func177 rfl Tryz.ntmps177 (by decide) ?_
  by_cases h1 : 262144 < size
  · have e : needOf size mult = none := by unfold needOf; rw [if_pos (.inl h1)]
    rw [e]
    repeat' (first|refine Ga0 fun _=>?_|refine Ga1 ?_|refine Ga2 (fun _=>?_) fun _=>?_|refine Ga3 ?_|refine Ga4 fun _=>?_|fail)
    exact bodyK.retD L (Res.of2 Tryz.results177) ⟨rfl, rfl⟩
  · repeat' (first|refine Ga0 fun _=>?_|refine Ga1 ?_|refine Ga2 (fun _=>?_) fun _=>?_|refine Ga3 ?_|refine Ga4 fun _=>?_|fail)
    refine OW.call (roundPower mult hm _) ?_
    rintro _ _ ⟨⟨b, rfl, hb⟩, rfl⟩
    by_cases h2 : mult ≤ 256
    · have hb' := hb h2
      subst hb'
      by_cases h3 : isMult mult
      · rw [decide_eq_true h3]
        have h4 : 1 ≤ max 1 size := by omega
        have h5 : max 1 size ≤ 262144 := by omega
        repeat' (first|refine Ga0 fun _=>?_|refine Ga1 ?_|refine Ga2 (fun _=>?_) fun _=>?_|refine Ga3 ?_|refine Ga4 fun _=>?_|fail)
        have en : needOf size mult = if max 1 size ≤ 256 ∧ mult ≤ 16 then some ⟨true, clsOf (max 1 size), 0, pay (clsOf (max 1 size))⟩ else some ⟨false, 0, (max 1 size + 255) / 256, (max 1 size + 255) / 256 * 256⟩ := by unfold needOf; rw [if_neg (by rintro (h | h); exact h1 h; exact h h3)]
        have hv := needV_eq h
        generalize max 1 size = n at *
        refine OW.call (sizeClass n (by omega) h5 _) ?_
        rintro _ _ ⟨rfl, rfl⟩
        have big : ¬ (n ≤ 256 ∧ mult ≤ 16) → needOf size mult = some ⟨false, 0, (n + 255) / 256, (n + 255) / 256 * 256⟩ := fun h => by rw [en, if_neg h]
        by_cases hs : n ≤ 256
        · simp only [if_pos hs, decide_eq_true hs]
          by_cases hm16 : mult ≤ 16
          · rw [en, if_pos ⟨hs, hm16⟩]
            clear en hv big
            repeat' (first|refine Ga0 fun _=>?_|refine Ga1 ?_|refine Ga2 (fun _=>?_) fun _=>?_|refine Ga3 ?_|refine Ga4 fun _=>?_|fail)
            refine OW.call (sizePayloads _) ?_
            rintro _ _ ⟨rfl, rfl⟩
            have hc := clsOf_range n
            generalize clsOf n = k at *
            rcases (show k = 0 ∨ k = 1 ∨ k = 2 ∨ k = 3 ∨ k = 4 ∨ k = 5 ∨ k = 6 ∨ k = 7 by omega) with rfl | rfl | rfl | rfl | rfl | rfl | rfl | rfl
            all_goals
              repeat' (first|refine Ga0 fun _=>?_|refine Ga1 ?_|refine Ga2 (fun _=>?_) fun _=>?_|refine Ga3 ?_|refine Ga4 fun _=>?_|fail)
              exact bodyK.retD L (Res.of2 Tryz.results177) ⟨rfl, rfl⟩
          · rw [big (by omega)]
            clear en big
            repeat' (first|refine Ga0 fun _=>?_|refine Ga1 ?_|refine Ga2 (fun _=>?_) fun _=>?_|refine Ga3 ?_|refine Ga4 fun _=>?_|fail)
            refine OW.call (roundMany n 256 (by decide) (by decide) ⟨by omega, h5⟩ _) ?_
            rintro _ _ ⟨rfl, rfl⟩
            rw [hv]
            repeat' (first|refine Ga0 fun _=>?_|refine Ga1 ?_|refine Ga2 (fun _=>?_) fun _=>?_|refine Ga3 ?_|refine Ga4 fun _=>?_|fail)
            exact bodyK.retD L (Res.of2 Tryz.results177) ⟨rfl, rfl⟩
        · rw [big (by omega)]
          clear en big
          simp only [if_neg hs, decide_eq_false hs]
          repeat' (first|refine Ga0 fun _=>?_|refine Ga1 ?_|refine Ga2 (fun _=>?_) fun _=>?_|refine Ga3 ?_|refine Ga4 fun _=>?_|fail)
          refine OW.call (roundMany n 256 (by decide) (by decide) ⟨by omega, h5⟩ _) ?_
          rintro _ _ ⟨rfl, rfl⟩
          rw [hv]
          repeat' (first|refine Ga0 fun _=>?_|refine Ga1 ?_|refine Ga2 (fun _=>?_) fun _=>?_|refine Ga3 ?_|refine Ga4 fun _=>?_|fail)
          exact bodyK.retD L (Res.of2 Tryz.results177) ⟨rfl, rfl⟩
      · rw [decide_eq_false h3]
        have e : needOf size mult = none := by unfold needOf; rw [if_pos (.inr h3)]
        rw [e]
        repeat' (first|refine Ga0 fun _=>?_|refine Ga1 ?_|refine Ga2 (fun _=>?_) fun _=>?_|refine Ga3 ?_|refine Ga4 fun _=>?_|fail)
        exact bodyK.retD L (Res.of2 Tryz.results177) ⟨rfl, rfl⟩
    · have e : needOf size mult = none := by unfold needOf; rw [if_pos (.inr (by unfold isMult; omega))]
      rw [e]
      cases b
      · repeat' (first|refine Ga0 fun _=>?_|refine Ga1 ?_|refine Ga2 (fun _=>?_) fun _=>?_|refine Ga3 ?_|refine Ga4 fun _=>?_|fail)
        exact bodyK.retD L (Res.of2 Tryz.results177) ⟨rfl, rfl⟩
      · repeat' (first|refine Ga0 fun _=>?_|refine Ga1 ?_|refine Ga2 (fun _=>?_) fun _=>?_|refine Ga3 ?_|refine Ga4 fun _=>?_|fail)
        exact bodyK.retD L (Res.of2 Tryz.results177) ⟨rfl, rfl⟩
end Go.Proofs.YtmnhooepaemlcaaGreat
