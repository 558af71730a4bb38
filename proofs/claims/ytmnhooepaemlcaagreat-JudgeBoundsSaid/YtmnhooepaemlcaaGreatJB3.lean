/-
  For every input the law JudgeBounds returns true, and each argument reads behind the call as it read before. This text holds lemmas for it (part 3).
  Conditions: none.
-/
import Derived.Test.YtmnhooepaemlcaaGreatJB2
import Derived.SizedLaws
set_option linter.all false
namespace Go.Pw.Md

theorem charge_without {m : Mod} (hm : WF m) {p : Pc} (hp : p ∈ m.L) : ((m.L.filter fun q => decide (q.ad ≠ p.ad)).map Pc.room).sum = m.charge - p.room := by
  have key : ∀ (l : List Pc), (l.Pairwise fun p q => p.ad + p.room ≤ q.ad) → (∀ p ∈ l, PcOk p) → p ∈ l → ((l.filter fun q => decide (q.ad ≠ p.ad)).map Pc.room).sum = (l.map Pc.room).sum - p.room := by
    intro l
    induction l with
    | nil => intro _ _ h; cases h
    | cons x l ih =>
      intro hl hok hp
      rw [List.pairwise_cons] at hl
      have rx := (hok x (List.mem_cons_self ..)).room
      rcases List.mem_cons.1 hp with rfl | hp1
      · rw [List.filter_cons_of_neg (by simp), List.filter_eq_self.2]
        · simp only [List.map_cons, List.sum_cons]; omega
        · intro q hq
          have := hl.1 q hq
          simp only [decide_eq_true_eq]; omega
      · have := hl.1 p hp1
        rw [List.filter_cons_of_pos (by simp only [decide_eq_true_eq]; omega)]
        have := ih hl.2 (fun p hp => hok p (List.mem_cons_of_mem _ hp)) hp1
        simp only [List.map_cons, List.sum_cons]; omega
  exact key m.L hm.apart hm.ok hp

theorem access_wf {m : Mod} (hm : WF m) {kind ad many : Int} {o : OutM} {bs : List Int} (hb : ∀ x ∈ bs, 0 ≤ x ∧ x ≤ 255) (h : (access m kind ad o bs many).2 = true) : WF (access m kind ad o bs many).1 := by
  unfold access at *
  repeat' split
  all_goals first | exact hm | skip
  exact map_wf hm fun p hp => ⟨over_ok (hm.ok p hp) hb, rfl, rfl⟩

theorem realloc_wf {m : Mod} (hm : WF m) {x : OpM} {o : OutM} (ho : 0 ≤ o.ad) (h : (realloc m x o).2 = true) : WF (realloc m x o).1 := by
  unfold realloc at *
  cases hf : m.find x.ad with
  | none => simp only; exact hm
  | some p =>
    obtain ⟨hp, hpa⟩ := find_some hf
    have okp := hm.ok p hp
    rw [hf] at h
    simp only at h ⊢
    cases hn : needOf x.size 1 with
    | none => simp only; exact hm
    | some nd =>
      rw [hn] at h
      simp only at h ⊢
      obtain ⟨c1, c2, c3⟩ := needOf_charge hn
      split
      · rename_i hg
        split
        · refine map_wf hm fun q hq => ?_
          have oq := hm.ok q hq
          split
          · rename_i he
            refine ⟨⟨oq.ad, oq.room, oq.fin, ?_, ?_, oq.len, oq.byt⟩, rfl, rfl⟩
            · simp only; omega
            · have := find_of hm hq
              rw [he, find_of hm hp] at this
              cases this
              simp only; omega
          · exact ⟨oq, rfl, rfl⟩
        · exact hm
      · rename_i hg
        rw [if_neg hg] at h
        have hlen : ((p.b.take (min p.size (max 1 x.size)).toNat).length : Int) ≤ nd.charge := by
          rw [List.length_take]; omega
        have hby : ∀ z ∈ p.b.take (min p.size (max 1 x.size)).toNat, -1 ≤ z ∧ z ≤ 255 := fun z hz => okp.byt z (List.mem_of_mem_take hz)
        have hh := handed_wf hm (x := nd) (size := x.size) (mult := 1) (less := p.room) (o := o) (b := p.b.take (min p.size (max 1 x.size)).toNat) ho c1 hlen hby
        generalize hr : handed m nd x.size 1 p.room o (p.b.take (min p.size (max 1 x.size)).toNat) = r at h hh ⊢
        by_cases he : r.2 = true ∧ o.errno = 0
        · simp only [if_pos he] at h ⊢
          obtain ⟨e1, e2, e3, e4⟩ := (hh he.1).2 he.2
          rw [e1]
          generalize hq : piece o.ad x.size nd.charge (p.b.take (min p.size (max 1 x.size)).toNat) = q at e2 ⊢
          have hqa : q.ad = o.ad ∧ q.room = nd.charge := by subst hq; exact ⟨rfl, rfl⟩
          have hfit := e3.2.2.2.2
          have hne : q.ad ≠ p.ad := fun e => by
            have := hfit p hp
            have := e2.room
            have := okp.room
            omega
          refine ⟨hm.slot0, hm.slot1, hm.quota0, hm.quota1, ?_, fun z hz => ?_, ?_⟩
          · exact (ins_apart hm.apart hm.ok (fun z hz => by rw [hqa.1, hqa.2]; exact hfit z hz) e2.room).filter _
          · rcases List.mem_cons.1 ((ins_perm q m.L).mem_iff.1 (List.mem_filter.1 hz).1) with rfl | hz
            · exact e2
            · exact hm.ok z hz
          · have h1 := sum_perm ((ins_perm q m.L).filter fun z => decide (z.ad ≠ p.ad))
            have h2 := charge_without hm hp
            rw [List.filter_cons_of_pos (by simpa using hne)] at h1
            simp only [List.map_cons, List.sum_cons] at h1
            unfold Mod.charge Mod.without at *
            simp only at *
            omega
        · simp only [if_neg he] at h ⊢
          have : o.errno ≠ 0 := fun e => he ⟨h, e⟩
          rw [(hh h).1 this]
          exact hm

theorem handed_wf' {m : Mod} (hm : WF m) {x : NeedM} {size mult : Int} {o : OutM} {b : List Int} (h0 : 0 ≤ o.ad) (hs : max 1 size ≤ x.charge) (hb : (b.length : Int) ≤ x.charge) (hy : ∀ z ∈ b, -1 ≤ z ∧ z ≤ 255)
    (h : (handed m x size mult 0 o b).2 = true) : WF (handed m x size mult 0 o b).1 := by
  have hh := handed_wf (mult := mult) (less := 0) hm h0 hs hb hy h
  by_cases he : o.errno = 0
  · obtain ⟨e1, e2, e3, e4⟩ := hh.2 he
    rw [e1]
    exact ins_wf hm e2 (fun q hq => e3.2.2.2.2 q hq) (by
      have : (piece o.ad size x.charge b).room = x.charge := rfl
      omega)
  · rw [hh.1 he]; exact hm

theorem step_wf {m : Mod} (hm : WF m) {x : OpM} {o : OutM} (ho : 0 ≤ o.ad) (hx : ∀ z ∈ x.bytes, 0 ≤ z ∧ z ≤ 255) (hob : ∀ z ∈ o.bytes, 0 ≤ z ∧ z ≤ 255) (h : (step m x o).2 = true) : WF (step m x o).1 := by
  unfold step at *
  split
  · rename_i hk
    rw [if_pos hk] at h
    cases hn : needOf x.size x.mult with
    | none => exact hm
    | some nd =>
      rw [hn] at h
      obtain ⟨c1, c2, c3⟩ := needOf_charge hn
      exact handed_wf' hm ho c1 (by simp only [List.length_nil]; omega) (fun _ h => (by cases h)) h
  · rename_i hk
    rw [if_neg hk] at h
    split
    · rename_i hk
      rw [if_pos hk] at h
      cases ht : total x.many x.size with
      | none => exact hm
      | some t =>
        rw [ht] at h
        simp only at h ⊢
        cases hn : needOf t 1 with
        | none => exact hm
        | some nd =>
          rw [hn] at h
          obtain ⟨c1, c2, c3⟩ := needOf_charge hn
          exact handed_wf' hm ho c1 (by simp only [List.length_replicate]; omega) (fun z hz => by rw [List.mem_replicate] at hz; omega) h
    · rename_i hk
      rw [if_neg hk] at h
      split
      · rename_i hk
        cases hf : m.find x.ad with
        | none => exact hm
        | some p =>
          simp only
          split
          · exact without_wf hm _
          · exact hm
      · rename_i hk
        rw [if_neg hk] at h
        split
        · rename_i hk
          rw [if_pos hk] at h
          exact realloc_wf hm ho h
        · rename_i hk
          rw [if_neg hk] at h
          split
          · cases hf : m.find x.ad with
            | none => exact hm
            | some p => exact hm
          · rename_i hk
            rw [if_neg hk] at h
            split
            · rename_i hk
              rw [if_pos hk] at h
              exact access_wf hm hob h
            · rename_i hk
              rw [if_neg hk] at h
              split
              · exact hm
              · rename_i hb
                rw [if_neg hb] at h
                exact access_wf hm hx h
theorem start_wf {slot quota : Int} (h : 0 ≤ slot ∧ slot < 4 ∧ 0 ≤ quota ∧ quota ≤ 1073741824) : WF ⟨slot, quota, []⟩ :=
  ⟨h.1, h.2.1, h.2.2.1, h.2.2.2, .nil, fun _ h => (by cases h), by simpa [Mod.charge] using h.2.2.1⟩

/-- A byte, as it is told: a number, known or not, in a piece or not. -/
def byteAt (m : Mod) (a : Int) : Int × Bool × Bool :=
  match m.inn a with
  | none => (0, false, false)
  | some p => if p.b.getD (a - p.ad).toNat 0 = -1 then (0, false, true) else (p.b.getD (a - p.ad).toNat 0, true, true)

def okO : OutM := ⟨0, 0, 0, []⟩
def errO (e : Int) : OutM := ⟨e, 0, 0, []⟩
theorem handed_some (m : Mod) (x : NeedM) (size mult less : Int) (b : List Int) : (handed m x size mult less (errO 301) b).2 = true ∨ (handed m x size mult less (errO 171) b).2 = true := by
  by_cases h : m.quota < m.charge - less + x.charge
  · left; simp [handed, h, errO, bareO, noneO]
  · right; simp [handed, h, errO, bareO, noneO]
/-- The bytes that a load may tell. -/
def toldB (m : Mod) (ad many : Int) : List Int := (List.range many.toNat).map fun k : Nat => (byteAt m (ad + (k : Int))).1
theorem agrees_told {m : Mod} (hm : WF m) {ad many : Int} {p : Pc} (hp : p ∈ m.L) : agrees ad (toldB m ad many) p := by
  intro d hd h1 h2
  have okp := hm.ok p hp
  have hl := okp.len
  simp only [toldB, List.length_map, List.length_range] at h2
  have hin : m.inn (p.ad + d) = some p := inn_of hm hp (by omega)
  by_cases hk : p.b.getD d 0 = -1
  · exact .inl hk
  · right
    have hi : (p.ad + (d : Int) - ad).toNat < many.toNat := by omega
    have e1 : ad + (((p.ad + (d : Int) - ad).toNat : Nat) : Int) = p.ad + d := by omega
    have e2 : (p.ad + (d : Int) - p.ad).toNat = d := by omega
    rw [toldB, List.getD_eq_getElem?_getD (l := List.map _ _), List.getElem?_map, List.getElem?_range hi]
    simp only [Option.map_some, Option.getD_some, e1, byteAt, hin, e2, if_neg hk]
/-- Some answer may be. -/
theorem always {m : Mod} (hm : WF m) {x : OpM} (hk : 1 ≤ x.kind ∧ x.kind ≤ 7) (hmany : 0 ≤ x.many) (hbig : x.kind = 6 → x.many ≤ 300 ∨ 16777216 < x.many) :
    (∃ o ∈ [okO, errO 2, errO 4, errO 320, errO 301, errO 171, ⟨0, x.ad, 0, []⟩], (step m x o).2 = true) ∨ (∃ p ∈ m.L, (step m x ⟨0, 0, p.room, []⟩).2 = true) ∨ (x.kind = 6 ∧ x.many ≤ 300 ∧ (step m x ⟨0, 0, 0, toldB m x.ad x.many⟩).2 = true) := by
  have mem : ∀ {o : OutM}, o ∈ [okO, errO 2, errO 4, errO 320, errO 301, errO 171, ⟨0, x.ad, 0, []⟩] → (step m x o).2 = true → (∃ o ∈ [okO, errO 2, errO 4, errO 320, errO 301, errO 171, ⟨0, x.ad, 0, []⟩], (step m x o).2 = true) := fun h1 h2 => ⟨_, h1, h2⟩
  have hand : ∀ (nd : NeedM) (size mult less : Int) (b : List Int), (∀ o ∈ [errO 301, errO 171], (handed m nd size mult less o b).2 = true → (step m x o).2 = true) → (∃ o ∈ [okO, errO 2, errO 4, errO 320, errO 301, errO 171, ⟨0, x.ad, 0, []⟩], (step m x o).2 = true) := fun nd size mult less b h => by
    rcases handed_some m nd size mult less b with h1 | h1
    · exact mem (by simp) (h _ (by simp) h1)
    · exact mem (by simp) (h _ (by simp) h1)
  by_cases h1 : x.kind = 1
  · left
    cases hn : needOf x.size x.mult with
    | none => exact mem (o := errO 2) (by simp) (by simp [step, h1, hn, errO, bareO, noneO])
    | some nd => exact hand nd x.size x.mult 0 [] fun o _ h => by simp only [step, h1, hn, if_true]; exact h
  by_cases h2 : x.kind = 2
  · left
    cases ht : total x.many x.size with
    | none => exact mem (o := errO 2) (by simp) (by simp [step, h2, ht, errO, bareO, noneO])
    | some t =>
      have : t ≤ 262144 := by
        unfold total at ht
        split at ht
        · cases ht
        · cases ht; omega
      obtain ⟨nd, hn⟩ := needOf_one this
      exact hand nd t 1 0 (List.replicate nd.charge.toNat 0) fun o _ h => by
        simp only [step, h2, ht, hn]; exact h
  by_cases h3 : x.kind = 3
  · left
    cases hf : m.find x.ad with
    | none => exact mem (o := errO 320) (by simp) (by simp [step, h3, hf, errO, bareO, noneO])
    | some p => exact mem (o := okO) (by simp) (by simp [step, h3, hf, okO, bareO, noneO])
  by_cases h4 : x.kind = 4
  · left
    cases hf : m.find x.ad with
    | none => exact mem (o := errO 320) (by simp) (by simp [step, h4, realloc, hf, errO, bareO, noneO])
    | some p =>
      obtain ⟨hp, hpa⟩ := find_some hf
      cases hn : needOf x.size 1 with
      | none => exact mem (o := errO 2) (by simp) (by simp [step, h4, realloc, hf, hn, errO, bareO, noneO])
      | some nd =>
        by_cases hg : nd.small = false ∧ (site (p.ad / 256)).1 = 3 ∧ p.room = nd.charge
        · exact mem (o := ⟨0, x.ad, 0, []⟩) (by simp) (by simp only [step, h4, realloc, hf, hn, if_pos hg]; simp [hpa])
        · refine hand nd x.size 1 p.room (p.b.take (min p.size (max 1 x.size)).toNat) fun o ho h => ?_
          have hoe : ¬ (o.errno = 0) := by
            simp only [List.mem_cons, List.not_mem_nil, or_false] at ho
            rcases ho with rfl | rfl <;> simp [errO]
          simp only [step, h4, realloc, hf, hn, if_neg hg]
          have e : ¬ (((handed m nd x.size 1 p.room o (p.b.take (min p.size (max 1 x.size)).toNat)).2 = true) ∧ o.errno = 0) := fun h => hoe h.2
          simp only [if_neg e]
          exact h
  by_cases h5 : x.kind = 5
  · cases hf : m.find x.ad with
    | none => exact .inl (mem (o := errO 320) (by simp) (by simp [step, h5, hf, errO, bareO, noneO]))
    | some p =>
      obtain ⟨hp, hpa⟩ := find_some hf
      exact .inr (.inl ⟨p, hp, by simp [step, h5, hf]⟩)
  by_cases h6 : x.kind = 6
  · by_cases hr : (reach m x.ad x.many).1 = 0
    · have hb : x.many ≤ 300 := by
        rcases hbig h6 with h | h
        · exact h
        · unfold reach at hr
          rw [if_pos (.inr h)] at hr
          cases hr
      refine .inr (.inr ⟨h6, hb, ?_⟩)
      have hl : ((toldB m x.ad x.many).length : Int) = x.many := by simp [toldB]; omega
      simp only [step, h6, access, hr]
      simp only [ne_eq, not_true_eq_false, if_false, false_or, hl, show ¬ ((6 : Int) = 7) by decide]
      rw [if_pos fun p hp => agrees_told hm hp]
      simp
    · have hv : (reach m x.ad x.many).1 = 2 ∨ (reach m x.ad x.many).1 = 4 := by
        unfold reach at *
        repeat' split
        all_goals simp_all
      left
      rcases hv with hv | hv
      · exact mem (o := errO 2) (by simp) (by simp [step, h6, access, hv, errO, bareO, noneO])
      · exact mem (o := errO 4) (by simp) (by simp [step, h6, access, hv, errO, bareO, noneO])
  · have h7 : x.kind = 7 := by omega
    left
    by_cases hr : (reach m x.ad x.bytes.length).1 = 0
    · refine mem (o := okO) (by simp) ?_
      simp [step, h7, access, hr, okO]
    · have hv : (reach m x.ad x.bytes.length).1 = 2 ∨ (reach m x.ad x.bytes.length).1 = 4 := by
        unfold reach at *
        repeat' split
        all_goals simp_all
      rcases hv with hv | hv
      · exact mem (o := errO 2) (by simp) (by simp [step, h7, access, hv, errO, bareO, noneO])
      · exact mem (o := errO 4) (by simp) (by simp [step, h7, access, hv, errO, bareO, noneO])
end Go.Pw.Md

namespace Go.Pw.Md
def Keeps (m : Mod) (m' : Mod) : Prop := m'.slot = m.slot ∧ m'.quota = m.quota
theorem Keeps.rfl (m : Mod) : Keeps m m := ⟨_root_.rfl, _root_.rfl⟩
theorem handed_keeps (m : Mod) (x : NeedM) (size mult less : Int) (o : OutM) (b : List Int) : Keeps m (handed m x size mult less o b).1 := by
  unfold handed
  split
  · exact .rfl m
  · split
    · exact .rfl m
    · split
      · exact ⟨rfl, rfl⟩
      · exact .rfl m
theorem access_keeps (m : Mod) (kind ad : Int) (o : OutM) (bs : List Int) (many : Int) : Keeps m (access m kind ad o bs many).1 := by
  unfold access
  split
  · exact .rfl m
  · split
    · exact .rfl m
    · split
      · exact .rfl m
      · split
        · exact ⟨rfl, rfl⟩
        · exact .rfl m
theorem realloc_keeps (m : Mod) (x : OpM) (o : OutM) : Keeps m (realloc m x o).1 := by
  unfold realloc
  split
  · exact .rfl m
  · split
    · exact .rfl m
    · split
      · split
        · exact ⟨rfl, rfl⟩
        · exact .rfl m
      · simp only
        split
        · exact ⟨(handed_keeps ..).1, (handed_keeps ..).2⟩
        · exact handed_keeps ..
theorem step_keeps (m : Mod) (x : OpM) (o : OutM) : Keeps m (step m x o).1 := by
  unfold step
  repeat' split
  all_goals first
    | exact .rfl m
    | exact handed_keeps ..
    | exact access_keeps ..
    | exact realloc_keeps ..
    | exact ⟨rfl, rfl⟩
/-- With what is told of a kind that is none. -/
def next (m : Mod) (x : OpM) (o : OutM) : Mod × Bool := if 1 ≤ x.kind ∧ x.kind ≤ 7 then step m x o else (m, false)
def nextE (x : OpM) : Int := if 1 ≤ x.kind ∧ x.kind ≤ 7 then 0 else 2
theorem next_keeps (m : Mod) (x : OpM) (o : OutM) : Keeps m (next m x o).1 := by
  unfold next
  split
  · exact step_keeps ..
  · exact .rfl m
theorem next_wf {m : Mod} (hm : WF m) {x : OpM} {o : OutM} (ho : 0 ≤ o.ad) (hx : ∀ z ∈ x.bytes, 0 ≤ z ∧ z ≤ 255) (hob : ∀ z ∈ o.bytes, 0 ≤ z ∧ z ≤ 255) (h : (next m x o).2 = true) : WF (next m x o).1 := by
  unfold next at *
  split
  · rename_i hk
    rw [if_pos hk] at h
    exact step_wf hm ho hx hob h
  · exact hm
/-- The model when an answer was told. -/
def after (m : Mod) (x : OpM) (o : OutM) : Mod := if (next m x o).2 then (next m x o).1 else m
theorem after_keeps (m : Mod) (x : OpM) (o : OutM) : Keeps m (after m x o) := by
  unfold after
  split
  · exact next_keeps ..
  · exact .rfl m
theorem after_wf {m : Mod} (hm : WF m) {x : OpM} {o : OutM} (ho : 0 ≤ o.ad) (hx : ∀ z ∈ x.bytes, 0 ≤ z ∧ z ≤ 255) (hob : ∀ z ∈ o.bytes, 0 ≤ z ∧ z ≤ 255) : WF (after m x o) := by
  unfold after
  split
  · rename_i h
    exact next_wf hm ho hx hob h
  · exact hm
end Go.Pw.Md

namespace Go.Pw.Md
open Go.Pw.Sc

/-- A row of things, so many cells each. -/
def LAt {α : Type} (s : Nat) (R : List Value → α → Prop) : List Value → List α → Prop
  | xs, [] => xs = []
  | xs, a :: ags => ∃ c r, xs = c ++ r ∧ c.length = s ∧ R c a ∧ LAt s R r ags
section
variable {α : Type} {s : Nat} {R R' : List Value → α → Prop}
theorem LAt.mono (hm : ∀ c a, R c a → R' c a) : ∀ {xs : List Value} {ags : List α}, LAt s R xs ags → LAt s R' xs ags
  | _, [], h => h
  | _, _ :: _, ⟨c, r, e, h0, h1, h2⟩ => ⟨c, r, e, h0, hm _ _ h1, LAt.mono hm h2⟩
theorem LAt.length : ∀ {xs : List Value} {ags : List α}, LAt s R xs ags → xs.length = ags.length * s
  | xs, [], h => by have : xs = [] := h; simp [this]
  | _, t :: ts, ⟨c, r, e, h0, h1, h2⟩ => by rw [e, List.length_append, h0, LAt.length h2, List.length_cons, Nat.add_mul]; omega
theorem LAt.append : ∀ {xs ys : List Value} {ags bs : List α}, LAt s R xs ags → LAt s R ys bs → LAt s R (xs ++ ys) (ags ++ bs)
  | xs, ys, [], bs, h, h1 => by have : xs = [] := h; rw [this]; exact h1
  | _, ys, a :: ags, bs, ⟨c, r, e, h0, h1, h2⟩, h3 => ⟨c, r ++ ys, by rw [e, List.append_assoc], h0, h1, LAt.append h2 h3⟩
theorem LAt.one {c : List Value} {a : α} (h0 : c.length = s) (h : R c a) : LAt s R c [a] := ⟨c, [], by simp, h0, h, rfl⟩
theorem LAt.get : ∀ {xs : List Value} {ags : List α} (i : Nat) (hi : i < ags.length), LAt s R xs ags → R ((xs.drop (i * s)).take s) ags[i]
  | _, _ :: _, 0, _, ⟨c, r, e, h0, h1, h2⟩ => by
    rw [e, Nat.zero_mul, List.drop_zero, List.take_append_of_le_length (by omega), List.take_of_length_le (by omega)]
    exact h1
  | _, _ :: ts, i + 1, hi, ⟨c, r, e, h0, h1, h2⟩ => by
    have h3 := LAt.get i (by simpa using hi) h2
    have e1 : (c ++ r).drop ((i + 1) * s) = r.drop (i * s) := by
      rw [show (i + 1) * s = c.length + i * s by rw [h0, Nat.add_mul]; omega, ← List.drop_drop, List.drop_left]
    rw [e, e1]
    exact h3
end
/-- A slice of such. -/
structure LS {α : Type} (s : Nat) (R : Chunk → List Value → α → Prop) (L : Chunk) (v : Value) (ags : List α) : Prop where
  rd : ∃ xs, Rd L s v ags.length xs ∧ LAt s (R L) xs ags
  len : (ags.length : Int) ≤ 9223372036854775807
section
variable {α : Type} {s : Nat} {R : Chunk → List Value → α → Prop} {L L' : Chunk} {v : Value} {ags : List α}
theorem LS.to (h : LS s R L v ags) [hm : MemC L L'] (hR : ∀ c a, R L c a → R L' c a) : LS s R L' v ags := ⟨let ⟨xs, a, b⟩ := h.rd; ⟨xs, a.to, b.mono hR⟩, h.len⟩
theorem LS.slice (h : LS s R L v ags) : ∃ a c, v = .slice a ags.length c := let ⟨_, a, _⟩ := h.rd; let ⟨b, c, h, _⟩ := a.isSlice; ⟨b, c, h⟩
theorem LS.sng (h : LS s R L v ags) : Sng v := by obtain ⟨a, c, rfl⟩ := h.slice; infer_instance
theorem LS.open (h : LS s R L v ags) (hn : ags.length ≠ 0) :
    ∃ b k cap l e fr, v = .slice (some ⟨b, k, none⟩) ags.length cap ∧ InC L b (.cells (List.toArray l) e fr) ∧ ags.length ≤ cap ∧ ∀ i (hi : i < ags.length), ∃ c, CutL l (k + i * s) s c ∧ R L c ags[i] := by
  obtain ⟨xs, hr, hl⟩ := h.rd
  obtain ⟨b, k, cap, l, e, fr, h1, h2, h3, h4⟩ := hr.open hn
  exact ⟨b, k, cap, l, e, fr, h1, h2, h3, fun i hi => ⟨_, h4 i hi, hl.get i hi⟩⟩
end
theorem cutSub {l c : List Value} {k n : Nat} (h : CutL l k n c) (a m : Nat) (ham : a + m ≤ n) : CutL l (k + a) m ((c.drop a).take m) := ⟨by
  have := h.out.1; omega, by
  rw [← h.out.2]
  simp only [List.drop_take, List.take_take, List.drop_drop]
  congr 1
  omega⟩

structure ActM where
  op : OpM
  out : OutM
  ask : Bool
structure OpR0 (x : OpM) : Prop where
  kind : inR .i64 x.kind
  ad : inR .u32 x.ad
  size : inR .u64 x.size
  mult : inR .u64 x.mult
  many : inR .u64 x.many
structure OutR0 (o : OutM) : Prop where
  errno : inR .i64 o.errno
  ad : inR .u32 o.ad
  n : inR .i64 o.n
@[reducible] def opC (x : OpM) (vx : Value) : List Value := [.int .i64 x.kind, .int .u32 x.ad, .int .u64 x.size, .int .u64 x.mult, .int .u64 x.many, vx]
@[reducible] def outC (o : OutM) (vb : Value) : List Value := [.int .i64 o.errno, .int .u32 o.ad, .int .i64 o.n, vb]
def ActAt (L : Chunk) (c : List Value) (a : ActM) : Prop := ∃ vx vb, c = opC a.op vx ++ outC a.out vb ++ [.bool a.ask] ∧ BS L vx a.op.bytes ∧ BS L vb a.out.bytes ∧ OpR0 a.op ∧ OutR0 a.out
def OutAt (L : Chunk) (c : List Value) (o : OutM) : Prop := ∃ vb, c = outC o vb ∧ BS L vb o.bytes ∧ OutR0 o
theorem ActAt.to {L L' : Chunk} [hm : MemC L L'] (c : List Value) (a : ActM) (h : ActAt L c a) : ActAt L' c a := let ⟨vx, vb, a, b, c, d⟩ := h; ⟨vx, vb, a, b.to, c.to, d⟩
theorem OutAt.to {L L' : Chunk} [hm : MemC L L'] (c : List Value) (a : OutM) (h : OutAt L c a) : OutAt L' c a := let ⟨vb, a, b, c⟩ := h; ⟨vb, a, b.to, c⟩
abbrev AS (L : Chunk) (v : Value) (ags : List ActM) : Prop := LS 11 ActAt L v ags
theorem AS.to' {L L' : Chunk} {v : Value} {ags : List ActM} (h : AS L v ags) [hm : MemC L L'] : AS L' v ags := LS.to h (fun c a h => ActAt.to c a h)
end Go.Pw.Md

namespace Go.Pw.Md
open Go.ChangeShapes Go.WideShapes Go.Pw.Sc
section
variable {H : Type} {enc : TypeId × Value → H} {P : Program} {w : World} {base : Nat} {spare : Nat → Bool} {held : Bool}
theorem LS.nil {α : Type} {s : Nat} {R : Chunk → List Value → α → Prop} {L : Chunk} : LS s R L (.slice none 0 0) [] := ⟨⟨[], ⟨by simp, .inl ⟨⟨_, _, rfl⟩, rfl⟩⟩, rfl⟩, by simp⟩
theorem ls_of_trod {α : Type} [Inhabited α] {s : Nat} {R : Chunk → List Value → α → Prop} {t e : TypeId} {fuel : Nat} {cs : List Value} {x : DataW H × List MemPlace} (hs0 : 0 < s) (ht : P.underlying t = some (.slice e)) (hc : P.cellsOf e = s)
    (hel : ∀ (fuel : Nat) (cs : List Value) (x : DataW H × List MemPlace), DataW.trod enc P w base spare held fuel e cs = some x → ∃ u, R (whole w) cs u ∧ cs.length = s)
    (h : DataW.trod enc P w base spare held fuel t cs = some x) : ∃ v ags, cs = [v] ∧ LS s R (whole w) v ags ∧ (ags = [] ∨ ∃ elems sp, x.1 = .slice elems sp ∧ elems.length = ags.length) := by
  rcases Go.Deep.open_slice ht h with ⟨rfl, _⟩ | ⟨a, len, cap, m, n, D, Pl, rfl, hb, hl, hm, hmm, hxx, hx⟩
  · exact ⟨_, [], rfl, LS.nil, .inl rfl⟩
  · rw [hc] at hx
    have hle : len ≤ m := by rw [hmm]; split <;> omega
    have hcap : (cap : Int) ≤ 9223372036854775807 := by have : cap ≤ maxLen := hm; unfold maxLen at this; omega
    by_cases h0 : len = 0
    · subst h0
      exact ⟨_, [], rfl, ⟨⟨[], ⟨by simp, .inl ⟨⟨_, _, rfl⟩, rfl⟩⟩, rfl⟩, by simp⟩, .inl rfl⟩
    · obtain ⟨T, hT⟩ := Go.Deep.choose_lt (α := List Value × α) (n := len) (p := fun i p => w.cells? base (a.add (i * s)) s = some p.1 ∧ R (whole w) p.1 p.2 ∧ p.1.length = s) (fun i hi => by
        obtain ⟨cs', h1, h2⟩ := hx i (by omega)
        obtain ⟨u, hu, hu2⟩ := hel _ _ _ h2
        exact ⟨(cs', u), h1, hu, hu2⟩)
      have hdm : ∀ i j, j < s → (i * s + j) / s = i ∧ (i * s + j) % s = j := fun i j hj => by
        refine ⟨?_, ?_⟩
        · rw [Nat.mul_comm, Nat.mul_add_div hs0, Nat.div_eq_of_lt hj, Nat.add_zero]
        · rw [Nat.mul_comm, Nat.mul_add_mod, Nat.mod_eq_of_lt hj]
      have hV : ∀ j, j < len * s → w.cell? (a.add j) = some (((T (j / s)).1)[j % s]?.getD .nilFunc) := fun j hj => by
        have hd : j / s < len := (Nat.div_lt_iff_lt_mul hs0).2 hj
        have hmod : j % s < s := Nat.mod_lt _ hs0
        obtain ⟨g1, g2, hl13⟩ := hT (j / s) hd
        obtain ⟨_, g3, g4⟩ := World.cells?_some g1
        have g5 := g4 (j % s) (by omega)
        rw [Go.Deep.add_add, Nat.div_add_mod' j s] at g5
        rw [g5, List.getElem?_eq_getElem (by omega)]
        rfl
      obtain ⟨b, k, c, ee, fr, rfl, h1, h2, h3⟩ := cells_row (w := w) (a := a) (n := len * s) (V := fun j => ((T (j / s)).1)[j % s]?.getD .nilFunc) (Nat.mul_pos (by omega) hs0) hV
      have key : ∀ q, q ≤ len → (List.range (q * s)).map (fun j => ((T (j / s)).1)[j % s]?.getD .nilFunc) = ((List.range q).map fun i => (T i).1).flatten ∧ LAt s (R (whole w)) ((List.range q).map fun i => (T i).1).flatten ((List.range q).map fun i => (T i).2) := by
        intro q
        induction q with
        | zero => intro _; exact ⟨by simp, rfl⟩
        | succ q ih =>
          intro hq
          obtain ⟨i1, i2⟩ := ih (by omega)
          obtain ⟨g1, g2, hl13⟩ := hT q (by omega)
          have e1 : (List.range ((q + 1) * s)).map (fun j => ((T (j / s)).1)[j % s]?.getD .nilFunc) = (List.range (q * s)).map (fun j => ((T (j / s)).1)[j % s]?.getD .nilFunc) ++ (T q).1 := by
            rw [Nat.add_mul, Nat.one_mul, List.range_add, List.map_append]
            congr 1
            apply List.ext_getElem?
            intro j
            by_cases hj : j < s
            · obtain ⟨d1, d2⟩ := hdm q j hj
              simp [hj, d1, d2, List.getElem?_eq_getElem (show j < (T q).1.length by omega)]
            · simp [hj, List.getElem?_eq_none (show (T q).1.length ≤ j by omega)]
          refine ⟨?_, ?_⟩
          · rw [e1, i1, List.range_succ, List.map_append, List.flatten_append]; simp
          · rw [List.range_succ, List.map_append, List.map_append, List.flatten_append]
            simp only [List.map_cons, List.map_nil, List.flatten_cons, List.flatten_nil, List.append_nil]
            exact LAt.append i2 (LAt.one hl13 g2)
      obtain ⟨k1, k2⟩ := key len (Nat.le_refl _)
      refine ⟨_, (List.range len).map fun i => (T i).2, rfl, ⟨⟨_, ⟨?_, .inr ⟨b, k, cap, c, ee, fr, by simp, mem_whole.2 h1, by simpa using h2, ?_, by simp; omega⟩⟩, k2⟩, by simp; omega⟩, .inr ⟨_, _, by rw [hxx], by simp⟩⟩
      · rw [k2.length]
      · simp only [List.length_map, List.length_range]
        rw [h3, k1]
theorem bool_of {t : TypeId} {fuel : Nat} {cs : List Value} {x : DataW H × List MemPlace} (ht : P.underlying t = some .bool) (h : DataW.trod enc P w base spare held fuel t cs = some x) : ∃ b, cs = [.bool b] :=
  let ⟨b, h1, _⟩ := DataW.trod_bool ht h; ⟨b, h1⟩
end
end Go.Pw.Md

namespace Go.Pw
theorem Rd.sng {L : Chunk} {s n : Nat} {v : Value} {xs : List Value} (h : Rd L s v n xs) : Sng v := by obtain ⟨a, c, rfl, _⟩ := h.isSlice; infer_instance
/-- Blocks may lie ahead of what is told. -/
theorem VP.front {P : Program} {fv : Value} {args : List Value} {L : Chunk} {Φ : Value → Chunk → Prop} (h : VP P fv args L (fun v L' => ∃ X L2, L' = X ++ L2 ∧ Φ v L2) noPanic) : VP P fv args L Φ noPanic := fun w0 w hs => by
  have key : ∀ e w', endR w0 (fun v L' => ∃ X L2, L' = X ++ L2 ∧ Φ v L2) noPanic e w' → endR w0 Φ noPanic e w' := fun e w' he => by
    cases e with
    | returned v =>
      obtain ⟨L', a, X, L2, rfl, b⟩ := he
      exact ⟨L2, a.drop (List.sublist_append_right ..), b⟩
    | panicked c => exact he
    | outgrown => exact he
  rcases h w0 w hs with ⟨f, first, cap, a, b, c⟩ | ⟨l, fn, tmps, asn, bo, a, b, c⟩
  · exact .inl ⟨f, first, cap, a, b, c.mono key⟩
  · exact .inr ⟨l, fn, tmps, asn, bo, a, b, RoundIn.mono c key⟩
section
variable {P : Program} {w0 : World} {rd : Option Nat} {n : Nat} {K : Post} {ρ : Env} {ds : List Deferred} {L R : Chunk} {l : List Oper} {ops : Array Oper} {ty : TypeId} {d : Nat} {pos : String} {after : Array Edge}

/-- The key and the value of the entry that came. -/
theorem yl_entry {x : Operand} {r m since c : Nat} {seen : Array Nat} {es : List MapEntry} {e : MapEntry} {q : IntKind} (hx : EvO ρ x (.pointer (some ⟨r, 0, none⟩))) (hin : InC L r (.mapIter (some m) since (seen.push e.born) c)) (hm : InC L m (.map es.toArray c)) (hk : KV q es c) (he : e ∈ es) :
    Yl P ρ L (.entry x) ty (.tuple #[e.key, e.val]) :=
  yl_of_run (fun c h => (by cases h)) fun w o ho _ hp => by
    have h1 := run_entry_at (P := P) w r m since seen es.toArray c e (hp _ _ hin.out) (hp _ _ hm.out) (by simpa using he) (by simpa using hk.births)
    unfold execOp
    simp only [ho, hx.out, Sem.run_bind, h1, Result.andThen_ok, Sem.run_pure]
theorem OW.entryE {x : Operand} {r m since c : Nat} {seen : Array Nat} {es : List MapEntry} {e : MapEntry} {q : IntKind} [hx : EvO ρ x (.pointer (some ⟨r, 0, none⟩))] [hin : InC L r (.mapIter (some m) since (seen.push e.born) c)] [hm : InC L m (.map es.toArray c)] (hk : KV q es c) (he : e ∈ es)
    (next : OW P w0 rd n ops K l (upd ρ d (.tuple #[e.key, e.val])) ds L) : OW P w0 rd n ops K (⟨some d, .entry x, ty, pos, after, none⟩ :: l) ρ ds L := OW.y (yl_entry hx hin hm hk he) next

theorem run_eqMapNil {w : World} (d : Nat) {t k e : TypeId} {p : Option Nat} (h : P.underlying t = some (.map k e)) : (Op.equalIn (d + 1) t (.map p) (.map none)).run P w = .ok p.isNone w := by
  cases p <;> simp [Op.equalIn, run_underlying h]
instance op1EqlNilMap {t yt k e : TypeId} {x y : Operand} {a : Option Nat} [ht : Und P t (.map k e)] [hx : EvO ρ x (.map a)] [hy : EvO ρ y (.map none)] : Op1 P ρ L (.binOp .eql t x y yt) ty (.bool a.isNone) :=
  ⟨yl_of_run (fun c h => (by cases h)) fun w o ho _ _ => by
    have h1 : (Op.equal t (.map a) (.map none)).run P w = .ok a.isNone w := run_eqMapNil 9999 ht.out
    unfold execOp
    simp [ho, hx.out, hy.out, eqGuard, binOp, h1]⟩

instance (priority := high) op1EqlSomePtr {t yt e : TypeId} {x y : Operand} {a : Addr} [ht : Und P t (.pointer e)] [hx : EvO ρ x (.pointer (some a))] [hy : EvO ρ y (.pointer none)] : Op1 P ρ L (.binOp .eql t x y yt) ty (.bool false) :=
  ⟨(op1EqlNilPtr (P := P) (ρ := ρ) (L := L) (ty := ty) (t := t) (yt := yt) (x := x) (y := y) (a := some a)).yl⟩
instance (priority := high) op1EqlSomeMap {t yt k e : TypeId} {x y : Operand} {a : Nat} [ht : Und P t (.map k e)] [hx : EvO ρ x (.map (some a))] [hy : EvO ρ y (.map none)] : Op1 P ρ L (.binOp .eql t x y yt) ty (.bool false) :=
  ⟨(op1EqlNilMap (P := P) (ρ := ρ) (L := L) (ty := ty) (t := t) (yt := yt) (x := x) (y := y) (a := some a)).yl⟩
instance {k e : TypeId} : NotIface (.map k e) := ⟨by simp⟩
theorem run_copyMap {w : World} {r c : Nat} {es : Array MapEntry} (t : TypeId) (hb : w.heap[r]? = some (.map es c)) :
    (Extern.MapsClone.clone #[.iface t (.map (some r))]).run P w = .ok (.iface t (.map (some w.heap.size))) (w.alloc (.map es c)) := by
  have hg : (getObj r).run P w = .ok (.map es c) w := by simp [getObj, Sem.run, hb]
  have e : Extern.MapsClone.clone #[.iface t (.map (some r))] = (getObj r >>= fun o => match o with
      | .map entries clock => (newObj (.map entries clock) >>= fun n => pure (.iface t (.map (some n))))
      | _ => stuck "maps.clone: a map expected") := rfl
  rw [e, Sem.run_bind, hg]
  simp [Result.andThen, newObj, Sem.run]

/-- A map is copied by the library's own hand. -/
theorem ef_mapClone {f : FuncId} {fn : Func} {x y : Operand} {argTypes : Array TypeId} {t : TypeId} {m c : Nat} {es : List MapEntry} (hf : P.funcs[f]? = some fn) (h1 : (fn.name == "runtime.NumGoroutine") = false) (h2 : fn.body.isNone = true) (h3 : Extern.findNext fn = none) (h4 : Extern.find fn = some Extern.MapsClone.clone)
    (hx : ev ρ x = .func (.func f) #[] #[]) (hy : EvO ρ y (.iface t (.map (some m)))) (hin : InC L m (.map es.toArray c)) :
    Ef P ρ L (.call { callee := .value x, args := #[y], argTypes }) ty (fun v L' => ∃ b, v = .iface t (.map (some b)) ∧ L' = (b, .map es.toArray c) :: L) noPanic := by
  refine ⟨fun c h => (by cases h), fun w0 w rd a next Q o ho hty ha hst hn _ => ?_⟩
  have hr : (execOp (ev ρ) o).run P w = .ok (.value (.iface t (.map (some w.heap.size)))) (w.alloc (.map es.toArray c)) := by
    unfold execOp
    simp only [ho, resolve, hx, Deferred.ofValue, Sem.run_bind, Sem.run_pure, Result.andThen_ok, invoke, List.map_toArray, List.map_cons, List.map_nil, hy.out, Array.empty_append, Array.append_empty]
    rw [run_callFunc_extern hf h1 h2 h3 h4, run_copyMap t (hst.pn _ _ hin.out)]
    simp [Result.andThen]
  rw [hr]
  exact hn _ _ _ (hst.alloc _) ⟨_, rfl, rfl⟩
theorem OW.mapClone {f : FuncId} {fn : Func} {x y : Operand} {argTypes : Array TypeId} {t : TypeId} {m c : Nat} {es : List MapEntry} (hf : P.funcs[f]? = some fn) (h1 : (fn.name == "runtime.NumGoroutine") = false) (h2 : fn.body.isNone = true) (h3 : Extern.findNext fn = none) (h4 : Extern.find fn = some Extern.MapsClone.clone)
    [hx : EvO ρ x (.func (.func f) #[] #[])] [hy : EvO ρ y (.iface t (.map (some m)))] [hin : InC L m (.map es.toArray c)]
    (next : ∀ b, OW P w0 rd n ops K l (upd ρ d (.iface t (.map (some b)))) ds ((b, .map es.toArray c) :: L)) : OW P w0 rd n ops K (⟨some d, .call { callee := .value x, args := #[y], argTypes }, ty, pos, after, none⟩ :: l) ρ ds L :=
  OW.eff (ef_mapClone hf h1 h2 h3 h4 hx.out hy hin) (fun v L' ⟨b, e1, e2⟩ => by subst e1 e2; exact next b) (fun _ _ h => h.elim)

/-- What is found under a key, and whether there is such a one. -/
theorem OW.lookOk {t kt et : TypeId} {x y : Operand} {k k' : IntKind} {j : Int} {m c : Nat} {es : List MapEntry} {z : Value} [ht : Und P t (.map kt et)] [hk : Und P kt (.int k')] [hz : Zer P et z] [hx : EvO ρ x (.map (some m))] [hy : EvO ρ y (.int k j)] [hin : InC L m (.map es.toArray c)] (hes : keysI k es)
    (hs : ∀ v, findI es j = some v → OW P w0 rd n ops K l (upd ρ d (.tuple #[v, .bool true])) ds L) (hn : findI es j = none → OW P w0 rd n ops K l (upd ρ d (.tuple #[z, .bool false])) ds L) :
    OW P w0 rd n ops K (⟨some d, .lookup t x y true, ty, pos, after, none⟩ :: l) ρ ds L := by
  have h := yl_lookupOk (P := P) (ty := ty) ht hk hz hx hy hin hes
  cases hf : findI es j with
  | none => rw [hf] at h; exact OW.y h (hn hf)
  | some v => rw [hf] at h; exact OW.y h (hs v hf)
theorem OW.lookAt {t kt et : TypeId} {x y : Operand} {k k' : IntKind} {j : Int} {m c : Nat} {es : List MapEntry} {z v : Value} [ht : Und P t (.map kt et)] [hk : Und P kt (.int k')] [hz : Zer P et z] [hx : EvO ρ x (.map (some m))] [hy : EvO ρ y (.int k j)] [hin : InC L m (.map es.toArray c)] (hes : keysI k es)
    (hs : findI es j = some v) (next : OW P w0 rd n ops K l (upd ρ d v) ds L) : OW P w0 rd n ops K (⟨some d, .lookup t x y false, ty, pos, after, none⟩ :: l) ρ ds L := by
  have h := yl_lookup (P := P) (ty := ty) ht hk hz hx hy hin hes
  rw [hs] at h
  exact OW.y h next
theorem OW.mapNew {t kt et : TypeId} {x y z : Operand} {k k' : IntKind} {j : Int} {m c : Nat} {es : List MapEntry} {L' : Chunk} {u : Value} [ht : Und P t (.map kt et)] [hk : Und P kt (.int k')] [hx : EvO ρ x (.map (some m))] [hy : EvO ρ y (.int k j)] [hz : EvO ρ z u] [hin : InC L m (.map es.toArray c)] (hes : KV k es c) (hno : findI es j = none)
    [hu : UpdC L m (.map (es ++ [MapEntry.mk (.int k j) u c]).toArray (c + 1)) L'] (next : OW P w0 rd n ops K l ρ ds L') : OW P w0 rd n ops K (⟨none, .mapUpdate t x y z, ty, pos, after, none⟩ :: l) ρ ds L := by
  have e : putE k j u es c = (es ++ [MapEntry.mk (.int k j) u c], c + 1) := by unfold putE; rw [hno]; rfl
  have hu' : UpdC L m (.map (putE k j u es c).1.toArray (putE k j u es c).2) L' := by rw [e]; exact hu
  exact OW.mapPut hes next
theorem OW.mapOld {t kt et : TypeId} {x y z : Operand} {k k' : IntKind} {j : Int} {m c : Nat} {es : List MapEntry} {L' : Chunk} {u v0 : Value} [ht : Und P t (.map kt et)] [hk : Und P kt (.int k')] [hx : EvO ρ x (.map (some m))] [hy : EvO ρ y (.int k j)] [hz : EvO ρ z u] [hin : InC L m (.map es.toArray c)] (hes : KV k es c) (hso : findI es j = some v0)
    [hu : UpdC L m (.map (setE k j u es).toArray c) L'] (next : OW P w0 rd n ops K l ρ ds L') : OW P w0 rd n ops K (⟨none, .mapUpdate t x y z, ty, pos, after, none⟩ :: l) ρ ds L := by
  have e : putE k j u es c = (setE k j u es, c) := by unfold putE; rw [hso]; rfl
  have hu' : UpdC L m (.map (putE k j u es c).1.toArray (putE k j u es c).2) L' := by rw [e]; exact hu
  exact OW.mapPut hes next
end
end Go.Pw

namespace Go.Pw
section
variable {P : Program} {w0 : World} {rd : Option Nat} {n : Nat} {K : Post} {ρ : Env} {ds : List Deferred} {L : Chunk} {l : List Oper} {ops : Array Oper}
/-- What holds behind this code, however it went. -/
theorem CW.cut {c : Code} (E : Env → List Deferred → Chunk → Prop) (next : ∀ ρ ds L, E ρ ds L → K .normal ρ ds L) (h : CW P w0 rd n c (thenK E K) ρ ds L) : CW P w0 rd n c K ρ ds L :=
  CW.mono h fun e ρ ds L h => by
    cases e with
    | normal => exact next ρ ds L h
    | _ => exact h
/-- What holds behind this region, however it went. -/
theorem OW.cutK {N : Env → List Deferred → Chunk → Prop} (E : Env → List Deferred → Chunk → Prop) (next : ∀ ρ ds L, E ρ ds L → N ρ ds L)
    (h : ∀ N' : Env → List Deferred → Chunk → Prop, (∀ ρ ds L, E ρ ds L → N' ρ ds L) → OW P w0 rd n ops (thenK N' K) l ρ ds L) : OW P w0 rd n ops (thenK N K) l ρ ds L := h N next
end
end Go.Pw

namespace Go.Pw
section
variable {P : Program} {ρ : Env} {L : Chunk} {ty : TypeId}
theorem ef_grow {t t2 e : TypeId} {s bytes n cap m : Nat} {x y : Operand} {base : Option Addr} {u : Value} {xs news : List Value} {z : Value} {zs : List Value}
    (ht : Und P t (.slice e)) (ht2 : Und P t2 (.slice e)) (hz : Siz P e s) (hzv : Zer P e z) (hzc : CellsL z zs) (hzl : zs.length = s) (hby : Byt P e bytes) (hbp : 0 < bytes)
    (hx : EvO ρ x (.slice base n cap)) (hy : EvO ρ y u) (hrd : Rd L s u m news) (hbase : Rd L s (.slice base n cap) n xs) (hcap : cap < n + m) (hfit : (n + m) * bytes ≤ 140737488355328) :
    Ef P ρ L (.call { callee := .builtin .append, args := #[x, y], argTypes := #[t, t2] }) ty (fun v' L' => ∃ N', L' = N' ++ L ∧ Row e s N' v' (n + m) (xs ++ news)) noPanic := by
  refine ⟨fun c h => (by cases h), fun w0 w rd a next Q o ho hty ha hst hn _ => ?_⟩
  have hnm : n + m ≤ 140737488355328 := Nat.le_trans (Nat.le_mul_of_pos_right _ hbp) hfit
  have hlen : (xs ++ news).length = (n + m) * s := by rw [List.length_append, hbase.1, hrd.1, Nat.add_mul]
  obtain ⟨i, hi, hib⟩ := hby.out
  have hti : ∀ w, (typeInfo e).run P w = .ok i w := fun w => by simp [typeInfo, hi]
  have hunfold : ∀ r, (Builtin.append_ #[t, t2] o.type #[.slice base n cap, u]).run P w = r → (execOp (ev ρ) o).run P w = r.andThen fun v w' => .ok (.value v) w' := fun r hr => by
    unfold execOp
    simp only [ho, resolve, invoke, builtin, Sem.run_bind, Sem.run_pure, Result.andThen_ok, List.map_toArray, List.map_cons, List.map_nil, hx.out, hy.out, hr]
  have hlenu := lenOf_rd (P := P) (w := w) hrd
  have hpd : Pn w.drew L := hst.pn
  have hcellsD := run_firstCells_rd (P := P) hrd hpd
  have holdD := run_firstCells_rd (P := P) hbase hpd
  have hn1 : ¬ (n + m ≤ cap) := by omega
  have hn2 : ¬ ((9223372036854775807 : Int) < (n : Int) + (m : Int) ∧ i.bytes = 0) := by omega
  have hn3 : ¬ (281474976710656 < Builtin.nextslicecap (n + m) cap * i.bytes) := by
    have := growslice_fits hcap (by rw [hib]; exact hfit : (n + m) * i.bytes ≤ 140737488355328); omega
  have hK : n + m ≤ grownCap w (n + m) cap e := grownCap_ge w _ _ _
  have hrun : (Builtin.append_ #[t, t2] o.type #[.slice base n cap, u]).run P w = .ok (.slice (some ⟨w.heap.size, 0, none⟩) (n + m) (grownCap w (n + m) cap e))
      (w.drew.alloc (.cells (xs.toArray ++ (news.toArray ++ Builtin.zeroCells z.cells (grownCap w (n + m) cap e - (n + m)))) e)) := by
    unfold Builtin.append_
    simp [run_underlying ht.out, run_underlying ht2.out, hz.out, hlenu, hn1, hti, hn2, hn3, choose, Sem.run, Question.forced, askRoom, newRow, newObj]
    simp [holdD, hcellsD, hzv.out, grownCap]
  rw [hunfold _ hrun]
  refine hn _ _ ([(w.heap.size, .cells (xs.toArray ++ (news.toArray ++ Builtin.zeroCells z.cells (grownCap w (n + m) cap e - (n + m)))) e (0, 0))] ++ L) ?_ ⟨_, rfl, hlen, .inr ⟨w.heap.size, grownCap w (n + m) cap e, (Builtin.zeroCells z.cells (grownCap w (n + m) cap e - (n + m))).toList, rfl, ?_, hK, ?_⟩⟩
  · exact St.alloc (w := w.drew) hst.drew _
  · simp
  · rw [List.length_append, hlen, hzc.out, Array.length_toList, length_zeroCells, hzl, ← Nat.add_mul]
    congr 1
    omega
theorem ef_append0 {t t2 e : TypeId} {s bytes m : Nat} {x y : Operand} {base : Option Addr} {u : Value} {news : List Value} {z : Value} {zs : List Value}
    (ht : Und P t (.slice e)) (ht2 : Und P t2 (.slice e)) (hz : Siz P e s) (hzv : Zer P e z) (hzc : CellsL z zs) (hzl : zs.length = s) (hby : Byt P e bytes) (hbp : 0 < bytes)
    (hx : EvO ρ x (.slice base 0 0)) (hy : EvO ρ y u) (hrd : Rd L s u m news) (hfit : m * bytes ≤ 140737488355328) :
    Ef P ρ L (.call { callee := .builtin .append, args := #[x, y], argTypes := #[t, t2] }) ty (fun v' L' => (m = 0 ∧ v' = .slice base 0 0 ∧ L' = L) ∨ (m ≠ 0 ∧ ∃ N', L' = N' ++ L ∧ Row e s N' v' m news)) noPanic := by
  have hbase : Rd L s (.slice base 0 0) 0 [] := ⟨by simp, .inl ⟨⟨_, _, rfl⟩, rfl⟩⟩
  by_cases hm : m = 0
  · refine ⟨fun c h => (by cases h), fun w0 w rd a next Q o ho hty ha hst hn _ => ?_⟩
    subst hm
    have hnews : news = [] := List.eq_nil_of_length_eq_zero (by simpa using hrd.1)
    subst hnews
    have hlenu := lenOf_rd (P := P) (w := w) hrd
    have hcells := run_firstCells_rd (P := P) hrd hst.pn
    have hrun : (Builtin.append_ #[t, t2] o.type #[.slice base 0 0, u]).run P w = .ok (.slice base 0 0) w := by
      unfold Builtin.append_
      cases base with
      | none => simp [run_underlying ht.out, run_underlying ht2.out, hz.out, hlenu, hcells]
      | some ad => simp [run_underlying ht.out, run_underlying ht2.out, hz.out, hlenu, hcells, storeCells]
    unfold execOp
    simp only [ho, resolve, invoke, builtin, Sem.run_bind, Sem.run_pure, Result.andThen_ok, List.map_toArray, List.map_cons, List.map_nil, hx.out, hy.out, hrun]
    exact hn _ w L hst (.inl ⟨rfl, rfl, rfl⟩)
  · have h := ef_grow (P := P) (ty := ty) ht ht2 hz hzv hzc hzl hby hbp hx hy hrd hbase (by omega) (by simpa using hfit)
    refine ⟨h.1, fun w0 w rd a next Q o ho hty ha hst hn hp => h.2 w0 w rd a next Q o ho hty ha hst (fun v w' L' hs h => hn v w' L' hs (.inr ⟨hm, ?_⟩)) hp⟩
    obtain ⟨N', h1, h2⟩ := h
    exact ⟨N', h1, by simpa using h2⟩
variable {w0 : World} {rd : Option Nat} {nt : Nat} {K : Post} {ds : List Deferred} {R : Chunk} {ops : Array Oper} {l : List Oper} {d : Nat} {pos : String} {after : Array Edge}
theorem RW.append0 {t t2 e : TypeId} {s bytes m : Nat} {x y : Operand} {base : Option Addr} {u : Value} {news : List Value} {z : Value} {zs : List Value} {g : Option (Nat × Bool)}
    [hg : GdT ops ρ g] [hx : EvO ρ x (.slice base 0 0)] [hy : EvO ρ y u] [ht : Und P t (.slice e)] [ht2 : Und P t2 (.slice e)] [hz : Siz P e s] [hzv : Zer P e z] [hzc : CellsL z zs] [hzl : LenL zs s] [hby : Byt P e bytes] [hbp : NeNat bytes 0]
    (hrd : Rd L s u m news) (hfit : m * bytes ≤ 140737488355328)
    (h0 : m = 0 → ∃ R', (∀ p ∈ R, p ∈ R') ∧ (∀ p ∈ R', p ∈ L) ∧ RW P w0 rd nt ops K l R' (upd ρ d (.slice base 0 0)) ds L)
    (h1 : ∀ v' N', m ≠ 0 → Row e s N' v' m news → ∃ R', (∀ p ∈ R, p ∈ R') ∧ (∀ p ∈ R', p ∈ N' ++ L) ∧ RW P w0 rd nt ops K l R' (upd ρ d v') ds (N' ++ L)) :
    RW P w0 rd nt ops K (⟨some d, .call { callee := .builtin .append, args := #[x, y], argTypes := #[t, t2] }, ty, pos, after, g⟩ :: l) R ρ ds L :=
  RW.eff hg.out rfl (ef_append0 ht ht2 hz hzv hzc hzl.out hby (Nat.pos_of_ne_zero hbp.ne) hx hy hrd hfit) (fun v' L' h => by
    rcases h with ⟨hm, rfl, rfl⟩ | ⟨hm, N', rfl, hrow⟩
    · exact h0 hm
    · exact h1 v' N' hm hrow) (fun _ _ h => h.elim)
theorem CW.cutB {c : Code} {id : Nat} {N : Env → List Deferred → Chunk → Prop} (E : Env → List Deferred → Chunk → Prop) (next : ∀ ρ ds L, E ρ ds L → N ρ ds L)
    (h : ∀ N' : Env → List Deferred → Chunk → Prop, (∀ ρ ds L, E ρ ds L → N' ρ ds L) → CW P w0 rd nt c (blockK id (thenK N' K)) ρ ds L) : CW P w0 rd nt c (blockK id (thenK N K)) ρ ds L := h N next
theorem CW.cutK {c : Code} {N : Env → List Deferred → Chunk → Prop} (E : Env → List Deferred → Chunk → Prop) (next : ∀ ρ ds L, E ρ ds L → N ρ ds L)
    (h : ∀ N' : Env → List Deferred → Chunk → Prop, (∀ ρ ds L, E ρ ds L → N' ρ ds L) → CW P w0 rd nt c (thenK N' K) ρ ds L) : CW P w0 rd nt c (thenK N K) ρ ds L := h N next
end
end Go.Pw
namespace Go.Pw
/-- What was known lies behind. -/
class Sfx (L' L : Chunk) : Prop where out : ∃ X, L' = X ++ L
instance (priority := high) sfxRefl {L : Chunk} : Sfx L L := ⟨[], rfl⟩
instance sfxCons {L L' : Chunk} {p : Nat × Obj} [h : Sfx L' L] : Sfx (p :: L') L := ⟨let ⟨X, e⟩ := h.out; ⟨p :: X, by rw [e]; rfl⟩⟩
instance sfxApp {L L' N : Chunk} [h : Sfx L' L] : Sfx (N ++ L') L := ⟨let ⟨X, e⟩ := h.out; ⟨N ++ X, by rw [e, List.append_assoc]⟩⟩
end Go.Pw

namespace Go.Pw.Jd
open Go.Pw.Sc Go.Pw.Md

/-- A reply to a turn. -/
structure Rp where
  errno : Int
  hslot : Int
  hgen : Int
  count : Int
  dkind : Int
  dat : Int
  done : Bool
  oerrno : Int
  oad : Int
  on : Int
  obytes : List Int
  deriving DecidableEq
abbrev Hd := Int × Int
abbrev Bnd := Int → Option Hd
/-- Who is bound to whom, behind a turn. -/
def bindStep (b : Bnd) (t : Turn) (r : Rp) : Bnd :=
  if r.errno = 0 ∧ t.kind = 2 then fun n => if b n = some (t.hslot, t.hgen) then none else b n
  else if r.errno = 0 ∧ (0 ≤ t.thread ∧ t.thread < 4) ∧ t.kind = 3 then fun n => if n = t.thread then (if (t.hslot, t.hgen) = (0, 0) then none else some (t.hslot, t.hgen)) else b n
  else if r.errno = 0 ∧ (0 ≤ t.thread ∧ t.thread < 4) ∧ t.kind = 4 then fun n => if n = t.thread then none else b n
  else b
def bnd : List (Turn × Rp) → Bnd := List.foldl (fun b x => bindStep b x.1 x.2) fun _ => none
/-- A turn, its reply, its place, who is bound. -/
structure Row where
  t : Turn
  r : Rp
  at_ : Nat
  b : Bnd
def rowAt (l : List (Turn × Rp)) (i : Nat) (x : Turn × Rp) : Row := ⟨x.1, x.2, i, bnd (l.take i)⟩
def rows (l : List (Turn × Rp)) : List Row := l.zipIdx.map fun x => rowAt l x.2 x.1
theorem bnd_snoc (l : List (Turn × Rp)) (x : Turn × Rp) : bnd (l ++ [x]) = bindStep (bnd l) x.1 x.2 := by simp [bnd]
theorem rows_length (l : List (Turn × Rp)) : (rows l).length = l.length := by simp [rows]
theorem rows_get (l : List (Turn × Rp)) {i : Nat} (hi : i < l.length) : (rows l)[i]? = some (rowAt l i l[i]) := by
  simp [rows, List.getElem?_zipIdx, List.getElem?_eq_getElem hi]
theorem rows_snoc (l : List (Turn × Rp)) (x : Turn × Rp) : rows (l ++ [x]) = rows l ++ [⟨x.1, x.2, l.length, bnd l⟩] := by
  apply List.ext_getElem?
  intro i
  by_cases hi : i < l.length
  · rw [rows_get _ (by simp; omega), List.getElem?_append_left (by rw [rows_length]; exact hi), rows_get _ hi, List.getElem_append_left hi]
    simp [rowAt, List.take_append_of_le_length (Nat.le_of_lt hi)]
  · rw [List.getElem?_append_right (by rw [rows_length]; omega), rows_length]
    by_cases he : i = l.length
    · subst he
      rw [rows_get _ (by simp)]
      simp [rowAt]
    · rw [List.getElem?_eq_none (by rw [rows_length]; simp; omega), List.getElem?_eq_none (by simp; omega)]
def fine (k : Int) (w : Row) : Prop := w.t.kind = k ∧ w.r.errno = 0
instance (k : Int) (w : Row) : Decidable (fine k w) := by unfold fine; infer_instance
def isThread (n : Int) : Prop := 0 ≤ n ∧ n < 4
instance (n : Int) : Decidable (isThread n) := by unfold isThread; infer_instance
/-- The quota of a handle. -/
def creates (x : Hd) (w : Row) : Bool := decide (fine 1 w ∧ (w.r.hslot, w.r.hgen) = x ∧ 0 ≤ w.t.quota ∧ w.t.quota ≤ 1073741824)
def quotaOf (l : List Row) (x : Hd) : Int × Bool :=
  match l.find? (creates x) with
  | some w => (w.t.quota, decide (1 ≤ x.2 ∧ 0 ≤ x.1 ∧ x.1 < 4))
  | none => (0, false)
/-- A zero thread is bound to the zero handle. -/
def whose (w : Row) (n : Int) (x : Hd) : Prop := (w.b n).getD (0, 0) = x
instance (w : Row) (n : Int) (x : Hd) : Decidable (whose w n x) := by unfold whose; infer_instance
structure Cl where
  op : OpM
  work : Int
  told : Bool
  out : OutM
  steps : Int
def opOf (t : Turn) : OpM := ⟨t.okind, t.oat, t.osize, t.omult, t.omany, t.obytes⟩
def outOf (r : Rp) : OutM := ⟨r.oerrno, r.oad, r.on, r.obytes⟩
/-- One step of a call. -/
def clStep (c : Cl) (k : Nat) (r : Rp) : Cl :=
  ⟨c.op, if r.dkind = 3 ∧ c.work < 0 then k else c.work, if r.done then true else c.told, if r.done then outOf r else c.out, if r.dkind ≠ 1 then c.steps + 1 else c.steps⟩
/-- A call, behind the turns from a place on. -/
def scan (n : Int) (x : Hd) : List Row → Nat → Cl → Cl
  | [], _, c => c
  | w :: l, k, c =>
    if ¬ whose w n x then c
    else if w.t.thread = n ∧ fine 6 w then (if w.r.done then clStep c k w.r else scan n x l (k + 1) (clStep c k w.r))
    else scan n x l (k + 1) c
def begins (x : Hd) (w : Row) : Bool := decide (fine 5 w ∧ isThread w.t.thread ∧ whose w w.t.thread x)
def callsOf (x : Hd) : List Row → Nat → List Cl
  | [], _ => []
  | w :: l, k => if begins x w then scan w.t.thread x l (k + 1) ⟨opOf w.t, -1, false, okO, 0⟩ :: callsOf x l (k + 1) else callsOf x l (k + 1)
/-- The verdict: a kind, a place. -/
def verdict : Mod → List Cl → Int × Int
  | _, [] => (0, 0)
  | m, c :: l =>
    if c.told = false then (if c.op.kind = 5 ∨ c.op.kind = 6 then verdict m l else (2, c.work))
    else if (Md.next m c.op c.out).2 then verdict (Md.next m c.op c.out).1 l else (1, c.work)
end Go.Pw.Jd

namespace Go.Pw.Jd
open Go.Pw.Sc Go.Pw.Md

@[reducible] def rcells (r : Rp) (vo : Value) : List Value := [.int .i64 r.errno, .int .i64 r.hslot, .int .i64 r.hgen, .int .i64 r.count, .int .i64 r.dkind, .int .i64 r.dat, .bool r.done, .int .i64 r.oerrno, .int .u32 r.oad, .int .i64 r.on, vo]
structure RR (r : Rp) : Prop where
  errno : inR .i64 r.errno
  hslot : inR .i64 r.hslot
  hgen : inR .i64 r.hgen
  count : inR .i64 r.count
  dkind : inR .i64 r.dkind
  dat : inR .i64 r.dat
  oerrno : inR .i64 r.oerrno
  oad : inR .u32 r.oad
  on : inR .i64 r.on
def TnAt (L : Chunk) (c : List Value) (t : Turn) : Prop := ∃ vb vd, c = tcells t vb vd ∧ BS L vb t.obytes ∧ BS L vd t.draws ∧ TR t
def RpAt (L : Chunk) (c : List Value) (r : Rp) : Prop := ∃ vo, c = rcells r vo ∧ BS L vo r.obytes ∧ RR r
theorem TnAt.to {L L' : Chunk} [hm : MemC L L'] (c : List Value) (t : Turn) (h : TnAt L c t) : TnAt L' c t := let ⟨a, b, e, h1, h2, h3⟩ := h; ⟨a, b, e, h1.to, h2.to, h3⟩
theorem RpAt.to {L L' : Chunk} [hm : MemC L L'] (c : List Value) (r : Rp) (h : RpAt L c r) : RpAt L' c r := let ⟨a, e, h1, h2⟩ := h; ⟨a, e, h1.to, h2⟩
@[reducible] def hdV (h : Hd) : Value := .agg #[.int .i64 h.1, .int .i64 h.2]
/-- A map that says who is bound. -/
def HB (es : List MapEntry) (b : Bnd) : Prop := ∀ k, findI es k = (b k).map hdV
def Bm (L : Chunk) (bp : Nat) (b : Bnd) : Prop := ∃ es c, InC L bp (.map (List.toArray es) c) ∧ KV .i64 es c ∧ HB es b
theorem Bm.to {L L' : Chunk} {bp : Nat} {b : Bnd} (h : Bm L bp b) [hm : MemC L L'] : Bm L' bp b := let ⟨es, c, h1, h2, h3⟩ := h; ⟨es, c, ⟨hm.out _ h1.out⟩, h2, h3⟩
theorem findI_del {q : IntKind} {es : List MapEntry} {c : Nat} (h : KV q es c) (j k : Int) : findI (delE j es) k = if k = j then none else findI es k := by
  have hd : KV q (delE j es) c := h.del
  cases hf : findI (delE j es) k with
  | none =>
    by_cases hk : k = j
    · rw [if_pos hk]
    · rw [if_neg hk]
      cases hg : findI es k with
      | none => rfl
      | some v =>
        obtain ⟨A, e, B, e1, e2, e3⟩ := h.some_of hg
        have hek : kI e.key = k := by rw [e2]; rfl
        have hm : e ∈ delE j es := List.mem_filter.2 ⟨by rw [e1]; simp, by simpa [hek] using hk⟩
        exact absurd hek (hd.none_of hf e hm)
  | some v =>
    obtain ⟨A, e, B, e1, e2, e3⟩ := hd.some_of hf
    have hek : kI e.key = k := by rw [e2]; rfl
    have hm : e ∈ delE j es := by rw [e1]; simp
    obtain ⟨hm1, hm2⟩ := List.mem_filter.1 hm
    have hkj : ¬ k = j := by simpa [hek] using hm2
    have := h.find_of hm1
    rw [hek] at this
    rw [if_neg hkj, this, e3]
theorem put_none {q : IntKind} {es : List MapEntry} {c : Nat} {j : Int} {u : Value} (hf : findI es j = none) : putE q j u es c = (es ++ [⟨.int q j, u, c⟩], c + 1) := by unfold putE; rw [hf]; rfl
theorem put_some {q : IntKind} {es : List MapEntry} {c : Nat} {j : Int} {u v : Value} (hf : findI es j = some v) : putE q j u es c = (setE q j u es, c) := by unfold putE; rw [hf]; rfl
theorem findI_put {q : IntKind} {es : List MapEntry} {c : Nat} (h : KV q es c) (j k : Int) (u : Value) : findI (putE q j u es c).1 k = if k = j then some u else findI es k := by
  have hp : KV q (putE q j u es c).1 (putE q j u es c).2 := h.put
  have mem : ∀ e, e ∈ (putE q j u es c).1 ↔ (e ∈ es ∧ kI e.key ≠ j) ∨ (kI e.key = j ∧ e.key = .int q j ∧ e.val = u ∧ e ∈ (putE q j u es c).1) := fun e => by
    cases hf : findI es j with
    | none =>
      have hno := h.none_of hf
      rw [put_none hf]
      simp only [List.mem_append, List.mem_singleton]
      constructor
      · rintro (he | rfl)
        · exact .inl ⟨he, hno e he⟩
        · exact .inr ⟨rfl, rfl, rfl, .inr rfl⟩
      · rintro (⟨he, _⟩ | ⟨_, _, _, he⟩)
        · exact .inl he
        · exact he
    | some v =>
      rw [put_some hf]
      simp only [setE, List.mem_map]
      constructor
      · rintro ⟨x, hx, rfl⟩
        by_cases hk : kI x.key = j
        · rw [if_pos hk]
          exact .inr ⟨rfl, rfl, rfl, x, hx, by rw [if_pos hk]⟩
        · rw [if_neg hk]
          exact .inl ⟨hx, hk⟩
      · rintro (⟨he, hk⟩ | ⟨_, _, _, he⟩)
        · exact ⟨e, he, by rw [if_neg hk]⟩
        · exact he
  by_cases hk : k = j
  · subst hk
    rw [if_pos rfl]
    have : ∃ e ∈ (putE q k u es c).1, kI e.key = k ∧ e.val = u := by
      cases hf : findI es k with
      | none => rw [put_none hf]; exact ⟨⟨.int q k, u, c⟩, by simp, rfl, rfl⟩
      | some v =>
        rw [put_some hf]
        obtain ⟨A, e, B, e1, e2, e3⟩ := h.some_of hf
        refine ⟨⟨.int q k, u, e.born⟩, List.mem_map.2 ⟨e, by rw [e1]; simp, ?_⟩, rfl, rfl⟩
        rw [if_pos (by rw [e2]; rfl)]
    obtain ⟨e, he, h1, h2⟩ := this
    have := hp.find_of he
    rw [h1, h2] at this
    exact this
  · rw [if_neg hk]
    cases hf : findI (putE q j u es c).1 k with
    | none =>
      cases hg : findI es k with
      | none => rfl
      | some v =>
        obtain ⟨A, e, B, e1, e2, e3⟩ := h.some_of hg
        have hek : kI e.key = k := by rw [e2]; rfl
        exact absurd hek (hp.none_of hf e ((mem e).2 (.inl ⟨by rw [e1]; simp, by rw [hek]; exact hk⟩)))
    | some v =>
      obtain ⟨A, e, B, e1, e2, e3⟩ := hp.some_of hf
      have hek : kI e.key = k := by rw [e2]; rfl
      rcases (mem e).1 (by rw [e1]; simp) with ⟨hm, _⟩ | ⟨hj, _⟩
      · have := h.find_of hm
        rw [hek] at this
        rw [this, e3]
      · exact absurd (hek.symm.trans hj) hk
theorem HB.put {es : List MapEntry} {c : Nat} {b : Bnd} (h : HB es b) (hk : KV .i64 es c) (j : Int) (x : Hd) : HB (putE .i64 j (hdV x) es c).1 (fun n => if n = j then some x else b n) := fun k => by
  rw [findI_put hk]
  by_cases hj : k = j
  · simp [hj]
  · simp only [if_neg hj]; exact h k
theorem HB.del {es : List MapEntry} {c : Nat} {b : Bnd} (h : HB es b) (hk : KV .i64 es c) (j : Int) : HB (delE j es) (fun n => if n = j then none else b n) := fun k => by
  rw [findI_del hk]
  by_cases hj : k = j
  · simp [hj]
  · simp only [if_neg hj]; exact h k
theorem HB.nil : HB [] (fun _ => none) := fun k => rfl
@[reducible] def wcells (t : Turn) (r : Rp) (vb vd vo : Value) (at_ : Int) (bp : Nat) : List Value :=
  [.int .i64 t.kind, .int .i64 t.slot, .int .i64 t.quota, .int .i64 t.thread, .int .i64 t.hslot, .int .i64 t.hgen, .int .i64 t.okind, .int .u32 t.oat, .int .u64 t.osize, .int .u64 t.omult, .int .u64 t.omany, vb, vd,
   .int .i64 r.errno, .int .i64 r.hslot, .int .i64 r.hgen, .int .i64 r.count, .int .i64 r.dkind, .int .i64 r.dat, .bool r.done, .int .i64 r.oerrno, .int .u32 r.oad, .int .i64 r.on, vo, .int .i64 at_, .map (some bp)]
/-- A row of a history. -/
def RwAt (L : Chunk) (c : List Value) (w : Row) : Prop := ∃ vb vd vo bp, c = wcells w.t w.r vb vd vo w.at_ bp ∧ BS L vb w.t.obytes ∧ BS L vd w.t.draws ∧ BS L vo w.r.obytes ∧ TR w.t ∧ RR w.r ∧ Bm L bp w.b
theorem RwAt.to {L L' : Chunk} [hm : MemC L L'] (c : List Value) (w : Row) (h : RwAt L c w) : RwAt L' c w := let ⟨a, b, d, bp, e, h1, h2, h3, h4, h5, h6⟩ := h; ⟨a, b, d, bp, e, h1.to, h2.to, h3.to, h4, h5, h6.to⟩
end Go.Pw.Jd

namespace Go.Pw
section
variable {P : Program} {w0 : World} {rd : Option Nat} {n : Nat} {K : Post} {ρ : Env} {ds : List Deferred} {L R : Chunk} {l : List Oper} {ops : Array Oper} {ty : TypeId} {d : Nat} {pos : String} {after : Array Edge}
theorem run_firstCells_part {w : World} {n m : Nat} {u : Value} {xs : List Value} (h : Rd L 1 u m xs) (hn : n ≤ m) (hp : Pn w L) : (Builtin.firstCells 1 n u).run P w = .ok (xs.take n).toArray w := by
  rcases h.2 with ⟨⟨a, cap, rfl⟩, rfl⟩ | ⟨b, k, cap, c, e, fr, rfl, h1, h2, h3, _⟩
  · obtain rfl : n = 0 := by omega
    cases a with
    | none => simp [Builtin.firstCells]
    | some a => simp only [Builtin.firstCells, Nat.zero_mul, run_loadCells0]; simp
  · simp only [Builtin.firstCells]
    rw [run_loadCells_rd (hp _ _ h1) (by omega)]
    have : ((c.toList.drop k).take (n * 1)) = xs.take n := by
      rw [← h3, List.take_take]
      congr 1
      omega
    rw [this]
theorem ef_copy {t t2 e : TypeId} {x y : Operand} {b k nd cd m : Nat} {l0 : List Value} {u : Value} {xs : List Value} {L' : Chunk} (ht : Und P t (.slice e)) (hz : Siz P e 1) (hx : EvO ρ x (.slice (some ⟨b, k, none⟩) nd cd)) (hy : EvO ρ y u) (hrd : Rd L 1 u m xs)
    (hb : InC L b (.cells l0.toArray e (0, 0))) (hsng : ∀ v ∈ xs, Sng v) (hle : k + nd ≤ l0.length) (hu : UpdC L b (.cells (l0.take k ++ xs.take (min m nd) ++ l0.drop (k + min m nd)).toArray e (0, 0)) L') :
    Ef P ρ L (.call { callee := .builtin .copy, args := #[x, y], argTypes := #[t, t2] }) ty (fun v L'' => v = .int .i64 (min m nd : Nat) ∧ L'' = L') noPanic := by
  refine ⟨fun c h => (by cases h), fun w0 w rd a next Q o ho hty ha hst hn _ => ?_⟩
  have hlen := lenOf_rd (P := P) (w := w) hrd
  have hcells := run_firstCells_part (P := P) hrd (Nat.min_le_left m nd) hst.pn
  have hxl := hrd.1
  have htl : (xs.take (min m nd)).length = min m nd := by rw [List.length_take]; omega
  have hu' : UpdC L b (.cells (l0.toArray.toList.take (k + 0) ++ xs.take (min m nd) ++ l0.toArray.toList.drop (k + 0 + (xs.take (min m nd)).length)).toArray e (0, 0)) L' := by
    simp only [Nat.add_zero, htl]; exact hu
  obtain ⟨w', hr, hs⟩ := run_storeCells_st (P := P) (k := k) (xs.take (min m nd)) 0 w l0.toArray L L' (fun v hv => hsng v (List.mem_of_mem_take hv)) hst hb (by rw [htl]; simp; omega) hu'
  have hrun : (execOp (ev ρ) o).run P w = .ok (.value (.int .i64 (min m nd : Nat))) w' := by
    unfold execOp
    have hnm : Nat.min m nd = min m nd := rfl
    simp only [ho, resolve, invoke, builtin, Sem.run_bind, Sem.run_pure, Result.andThen_ok, List.map_toArray, List.map_cons, List.map_nil, hx.out, hy.out]
    simp [Builtin.copy_, run_underlying ht.out, hlen, hz.out, hnm, hcells, hr, goInt]
  rw [hrun]
  exact hn _ _ L' hs ⟨rfl, rfl⟩
theorem OW.copy {t t2 e : TypeId} {x y : Operand} {b k nd cd m : Nat} {l0 : List Value} {u : Value} {xs : List Value} {L' : Chunk} [ht : Und P t (.slice e)] [hz : Siz P e 1] [hx : EvO ρ x (.slice (some ⟨b, k, none⟩) nd cd)] [hy : EvO ρ y u] (hrd : Rd L 1 u m xs)
    [hb : InC L b (.cells l0.toArray e (0, 0))] (hsng : ∀ v ∈ xs, Sng v) (hle : k + nd ≤ l0.length) [hu : UpdC L b (.cells (l0.take k ++ xs.take (min m nd) ++ l0.drop (k + min m nd)).toArray e (0, 0)) L']
    (next : OW P w0 rd n ops K l (upd ρ d (.int .i64 (min m nd : Nat))) ds L') : OW P w0 rd n ops K (⟨some d, .call { callee := .builtin .copy, args := #[x, y], argTypes := #[t, t2] }, ty, pos, after, none⟩ :: l) ρ ds L :=
  OW.eff (ef_copy ht hz hx hy hrd hb hsng hle hu) (fun v L'' ⟨h1, h2⟩ => by subst h1 h2; exact next) (fun _ _ h => h.elim)
theorem RW.copy {t t2 e : TypeId} {x y : Operand} {b k nd cd m : Nat} {l0 : List Value} {u : Value} {xs : List Value} {L' : Chunk} {g : Option (Nat × Bool)} [hg : GdT ops ρ g] [ht : Und P t (.slice e)] [hz : Siz P e 1] [hx : EvO ρ x (.slice (some ⟨b, k, none⟩) nd cd)] [hy : EvO ρ y u] (hrd : Rd L 1 u m xs)
    [hb : InC L b (.cells l0.toArray e (0, 0))] (hsng : ∀ v ∈ xs, Sng v) (hle : k + nd ≤ l0.length) [hu : UpdC L b (.cells (l0.take k ++ xs.take (min m nd) ++ l0.drop (k + min m nd)).toArray e (0, 0)) L']
    (next : ∃ R', (∀ p ∈ R, p ∈ R') ∧ (∀ p ∈ R', p ∈ L') ∧ RW P w0 rd n ops K l R' (upd ρ d (.int .i64 (min m nd : Nat))) ds L') : RW P w0 rd n ops K (⟨some d, .call { callee := .builtin .copy, args := #[x, y], argTypes := #[t, t2] }, ty, pos, after, g⟩ :: l) R ρ ds L :=
  RW.eff hg.out (by rfl) (ef_copy ht hz hx hy hrd hb hsng hle hu) (fun v L'' ⟨h1, h2⟩ => by subst h1 h2; exact next) (fun _ _ h => h.elim)
end
end Go.Pw

namespace Go.Pw
section
variable {P : Program} {w0 : World} {rd : Option Nat} {n : Nat} {K : Post} {ρ : Env} {ds : List Deferred} {L R : Chunk} {l : List Oper} {ops : Array Oper} {ty : TypeId} {d : Nat} {pos : String} {after : Array Edge}
theorem RW.lookOk {t kt et : TypeId} {x y : Operand} {k k' : IntKind} {j : Int} {m c : Nat} {es : List MapEntry} {z : Value} {g : Option (Nat × Bool)} [hg : GdT ops ρ g] [ht : Und P t (.map kt et)] [hk : Und P kt (.int k')] [hz : Zer P et z] [hx : EvO ρ x (.map (some m))] [hy : EvO ρ y (.int k j)] [hin : InC R m (.map es.toArray c)] (hes : keysI k es)
    (hs : ∀ v, findI es j = some v → RW P w0 rd n ops K l R (upd ρ d (.tuple #[v, .bool true])) ds L) (hn : findI es j = none → RW P w0 rd n ops K l R (upd ρ d (.tuple #[z, .bool false])) ds L) :
    RW P w0 rd n ops K (⟨some d, .lookup t x y true, ty, pos, after, g⟩ :: l) R ρ ds L := by
  have h := yl_lookupOk (P := P) (L := R) (ty := ty) ht hk hz hx hy hin hes
  cases hf : findI es j with
  | none => rw [hf] at h; exact RW.y h rfl (hn hf)
  | some v => rw [hf] at h; exact RW.y h rfl (hs v hf)
/-- A key is struck, in a drawn region. -/
theorem RW.mapDel {dst : Option Tmp} {t kt : TypeId} {et t2 : TypeId} {x y : Operand} {k k' : IntKind} {j : Int} {m c : Nat} {es : List MapEntry} {L' : Chunk} {g : Option (Nat × Bool)} [hg : GdT ops ρ g] [ht : Und P t (.map kt et)] [hk : Und P kt (.int k')] [hx : EvO ρ x (.map (some m))] [hy : EvO ρ y (.int k j)] [hin : InC L m (.map es.toArray c)] (hes : KV k es c)
    [hu : UpdC L m (.map (delE j es).toArray c) L'] (next : ∃ R', (∀ p ∈ R, p ∈ R') ∧ (∀ p ∈ R', p ∈ L') ∧ RW P w0 rd n ops K l R' (updO ρ dst (.tuple #[])) ds L') : RW P w0 rd n ops K (⟨dst, .call { callee := .builtin .delete, args := #[x, y], argTypes := #[t, t2] }, ty, pos, after, g⟩ :: l) R ρ ds L :=
  RW.eff hg.out (by rfl) (ef_delete ht hk hx hy hin hes hu) (fun v L'' ⟨h1, h2⟩ => by subst h1 h2; exact next) (fun _ _ h => h.elim)
end
end Go.Pw

namespace Go.Pw
section
variable {P : Program} {w0 : World} {rd : Option Nat} {n : Nat} {K : Post} {ρ : Env} {ds : List Deferred} {L : Chunk} {l : List Oper} {ops : Array Oper} {ty : TypeId} {d : Nat} {pos : String} {after : Array Edge}
theorem OW.lookD {t kt et : TypeId} {x y : Operand} {k k' : IntKind} {j : Int} {m c : Nat} {es : List MapEntry} {z v : Value} [ht : Und P t (.map kt et)] [hk : Und P kt (.int k')] [hz : Zer P et z] [hx : EvO ρ x (.map (some m))] [hy : EvO ρ y (.int k j)] [hin : InC L m (.map es.toArray c)] (hes : keysI k es)
    (hv : (findI es j).getD z = v) (next : OW P w0 rd n ops K l (upd ρ d v) ds L) : OW P w0 rd n ops K (⟨some d, .lookup t x y false, ty, pos, after, none⟩ :: l) ρ ds L := by
  have h := yl_lookup (P := P) (ty := ty) ht hk hz hx hy hin hes
  rw [hv] at h
  exact OW.y h next
end
end Go.Pw
namespace Go.Pw
section
variable {P : Program} {w0 : World} {rd : Option Nat} {n : Nat} {K : Post} {ρ : Env} {ds : List Deferred} {L L' : Chunk} {c : Code}
theorem CW.perm (hp : L.Perm L') (h : CW P w0 rd n c K ρ ds L') : CW P w0 rd n c K ρ ds L := fun a w hr hst => h a w hr (hst.perm hp)
end
end Go.Pw

namespace Go.Pw
class BEqC (a b : Bool) (r : outParam Bool) : Prop where out : (a == b) = r
instance (priority := high) beqRefl {a : Bool} : BEqC a a true := ⟨by cases a <;> rfl⟩
instance beqTF : BEqC true false false := ⟨rfl⟩
instance beqFT : BEqC false true false := ⟨rfl⟩
class BNeC (a b : Bool) (r : outParam Bool) : Prop where out : (a == b) = !r
instance (priority := high) bneRefl {a : Bool} : BNeC a a false := ⟨by cases a <;> rfl⟩
instance bneTF : BNeC true false true := ⟨rfl⟩
instance bneFT : BNeC false true true := ⟨rfl⟩
section
variable {P : Program} {ρ : Env} {L : Chunk} {ty : TypeId}
theorem run_eqBool {w : World} (d' : Nat) {t : TypeId} {a b : Bool} (ht : P.underlying t = some .bool) : (Op.equalIn (d' + 1) t (.bool a) (.bool b)).run P w = .ok (a == b) w := by
  simp [Op.equalIn, run_underlying ht]
instance op1EqlBool {t yt : TypeId} {x y : Operand} {a b r : Bool} [ht : Und P t .bool] [hx : EvO ρ x (.bool a)] [hy : EvO ρ y (.bool b)] [h : BEqC a b r] : Op1 P ρ L (.binOp .eql t x y yt) ty (.bool r) :=
  ⟨yl_of_run (fun c h => (by cases h)) fun w o ho _ _ => by
    have h1 : (Op.equal t (.bool a) (.bool b)).run P w = .ok (a == b) w := run_eqBool 9999 ht.out
    unfold execOp
    simp [ho, hx.out, hy.out, eqGuard, binOp, h1, h.out]⟩
instance op1NeqBool {t yt : TypeId} {x y : Operand} {a b r : Bool} [ht : Und P t .bool] [hx : EvO ρ x (.bool a)] [hy : EvO ρ y (.bool b)] [h : BNeC a b r] : Op1 P ρ L (.binOp .neq t x y yt) ty (.bool r) :=
  ⟨yl_of_run (fun c h => (by cases h)) fun w o ho _ _ => by
    have h1 : (Op.equal t (.bool a) (.bool b)).run P w = .ok (a == b) w := run_eqBool 9999 ht.out
    unfold execOp
    simp [ho, hx.out, hy.out, eqGuard, binOp, h1, h.out]⟩
end
end Go.Pw

namespace Go.Pw.Md
open Go.Pw.Sc

/-- What an iterator has not handed out, of entries that stand for something. -/
def LeftZ {α : Type} (zs : List (MapEntry × α)) (seen : Array Nat) (tz : List (MapEntry × α)) : Prop := tz = zs.filter fun z => !seen.contains z.1.born
theorem LeftZ.init {α : Type} (zs : List (MapEntry × α)) : LeftZ zs #[] zs := by
  unfold LeftZ
  exact (List.filter_eq_self.2 fun _ _ => by simp).symm
theorem LeftZ.left {α : Type} {zs tz : List (MapEntry × α)} {seen : Array Nat} (h : LeftZ zs seen tz) : Left (zs.map (·.1)) seen (tz.map (·.1)) := by
  unfold Left LeftZ at *
  rw [h, List.filter_map]
  rfl
theorem LeftZ.step {α : Type} {zs tz : List (MapEntry × α)} {seen : Array Nat} (hn : (zs.map fun z => z.1.born).Nodup) (h : LeftZ zs seen tz) {z : MapEntry × α} (hz : z ∈ tz) :
    ∃ A B, tz = A ++ z :: B ∧ LeftZ zs (seen.push z.1.born) (A ++ B) := by
  obtain ⟨A, B, rfl⟩ := List.append_of_mem hz
  refine ⟨A, B, rfl, ?_⟩
  have hn : ((A ++ z :: B).map fun z => z.1.born).Nodup := by rw [h]; exact List.Nodup.sublist (List.filter_sublist.map _) hn
  have e1 : (zs.filter fun x => !(seen.push z.1.born).contains x.1.born) = (zs.filter fun x => !seen.contains x.1.born).filter fun x => decide (x.1.born ≠ z.1.born) := by
    rw [List.filter_filter]
    refine List.filter_congr fun x _ => ?_
    simp only [Array.contains_push]
    by_cases hx : x.1.born = z.1.born
    · simp [hx]
    · have : (x.1.born == z.1.born) = false := by simpa using hx
      simp [this, hx]
  unfold LeftZ at h ⊢
  rw [e1, ← h, List.filter_append, List.filter_cons_of_neg (by simp)]
  rw [List.map_append, List.nodup_append, List.map_cons, List.nodup_cons] at hn
  rw [List.filter_eq_self.2, List.filter_eq_self.2]
  · intro a ha
    simp only [decide_eq_true_eq]
    intro hh
    exact hn.2.1.1 (List.mem_map.2 ⟨a, ha, hh⟩)
  · intro a ha
    simp only [decide_eq_true_eq]
    intro hh
    exact hn.2.2 _ (List.mem_map.2 ⟨a, ha, rfl⟩) _ (List.mem_cons_self ..) hh
section
variable {P : Program} {w0 : World} {rd : Option Nat} {n : Nat} {K : Post} {ρ : Env} {ds : List Deferred} {L R : Chunk} {l : List Oper} {ops : Array Oper} {ty : TypeId} {d : Nat} {pos : String} {after : Array Edge}
/-- The next entry, with what it stands for. -/
theorem OW.nextZ {α : Type} {x : Operand} {r m since c0 clock : Nat} {seen : Array Nat} {es : List MapEntry} {zs tz : List (MapEntry × α)} {q : IntKind} {C : Chunk → Chunk} [hx : EvO ρ x (.pointer (some ⟨r, 0, none⟩))] [hat : At L [(r, .mapIter (some m) since seen c0)] C] [hin : InC L m (.map es.toArray clock)]
    (hk : KV q es clock) (hes : es = zs.map (·.1)) (hl : LeftZ zs seen tz) (hold : ∀ e ∈ es, e.born < since) (hsc : since ≤ c0)
    (h0 : tz = [] → OW P w0 rd n ops K l (upd ρ d (.tuple #[.bool false])) ds L)
    (h1 : ∀ A z B, tz = A ++ z :: B → z ∈ zs → LeftZ zs (seen.push z.1.born) (A ++ B) → OW P w0 rd n ops K l (upd ρ d (.tuple #[.bool true, z.1.key, z.1.val])) ds (C [(r, .mapIter (some m) since (seen.push z.1.born) clock)])) :
    OW P w0 rd n ops K (⟨some d, .next x false, ty, pos, after, none⟩ :: l) ρ ds L :=
  OW.next hold hsc (fun h => by
    have h2 := leftOf_none (hes ▸ hl.left) h
    exact h0 (by simpa using h2)) (fun e he => by
    have hm := leftOf_mem (hes ▸ hl.left) he
    obtain ⟨z, hz, rfl⟩ := List.mem_map.1 hm
    obtain ⟨A, B, e1, e2⟩ := hl.step (by have := hk.births; rw [hes, List.map_map] at this; exact this) hz
    refine h1 A z B e1 ?_ e2
    rw [hl] at hz
    exact (List.mem_filter.1 hz).1)
end

@[reducible] def pcV (p : Pc) (v : Value) : Value := .agg #[.int .u32 p.ad, .int .i64 p.size, .int .i64 p.room, v]
/-- An entry that stands for a piece. -/
def PcAt (L : Chunk) (e : MapEntry) (p : Pc) : Prop := e.key = .int .u32 p.ad ∧ ∃ v, e.val = pcV p v ∧ Rd L 1 v p.b.length (iv p.b)
theorem PcAt.to {L L' : Chunk} {e : MapEntry} {p : Pc} (h : PcAt L e p) [hm : MemC L L'] : PcAt L' e p := let ⟨a, v, b, c⟩ := h; ⟨a, v, b, c.to⟩
structure Zs (L : Chunk) (es : List MapEntry) (zs : List (MapEntry × Pc)) : Prop where
  es : es = zs.map (·.1)
  at_ : ∀ z ∈ zs, PcAt L z.1 z.2
theorem Zs.to {L L' : Chunk} {es : List MapEntry} {zs : List (MapEntry × Pc)} (h : Zs L es zs) [hm : MemC L L'] : Zs L' es zs := ⟨h.es, fun z hz => (h.at_ z hz).to⟩

/-- The pieces of a model, as a map holds them. -/
def MRest (L : Chunk) (bp : Nat) (m : Mod) : Prop := ∃ es c zs, InC L bp (.map (List.toArray es) c) ∧ KV .u32 es c ∧ Zs L es zs ∧ (zs.map (·.2)).Perm m.L
theorem MRest.to {L L' : Chunk} {bp : Nat} {m : Mod} (h : MRest L bp m) [hm : MemC L L'] : MRest L' bp m := let ⟨es, c, zs, a, b, d, e⟩ := h; ⟨es, c, zs, ⟨hm.out _ a.out⟩, b, d.to, e⟩
@[reducible] def mcells (m : Mod) (bp : Nat) : List Value := [.int .i64 m.slot, .int .i64 m.quota, .map (some bp)]

theorem Zs.find {L : Chunk} {es : List MapEntry} {zs : List (MapEntry × Pc)} {c : Nat} (h : Zs L es zs) (hk : KV .u32 es c) {a : Int} {v : Value} (hf : findI es a = some v) : ∃ z ∈ zs, z.2.ad = a ∧ z.1.val = v := by
  obtain ⟨A, e, B, e1, e2, e3⟩ := hk.some_of hf
  have he : e ∈ es := by rw [e1]; simp
  rw [h.es] at he
  obtain ⟨z, hz, rfl⟩ := List.mem_map.1 he
  refine ⟨z, hz, ?_, e3⟩
  have := (h.at_ z hz).1
  rw [e2] at this
  cases this
  rfl
theorem Zs.find_none {L : Chunk} {es : List MapEntry} {zs : List (MapEntry × Pc)} {c : Nat} (h : Zs L es zs) (hk : KV .u32 es c) {a : Int} (hf : findI es a = none) : ∀ z ∈ zs, z.2.ad ≠ a := fun z hz e => by
  have h1 := hk.none_of hf z.1 (by rw [h.es]; exact List.mem_map.2 ⟨z, hz, rfl⟩)
  rw [(h.at_ z hz).1] at h1
  exact h1 e
theorem perm_find {m : Mod} (hm : WF m) {ps : List Pc} (hp : ps.Perm m.L) {p : Pc} (h : p ∈ ps) : m.find p.ad = some p := find_of hm (hp.mem_iff.1 h)
theorem perm_find_none {m : Mod} {ps : List Pc} (hp : ps.Perm m.L) {a : Int} (h : ∀ p ∈ ps, p.ad ≠ a) : m.find a = none := List.find?_eq_none.2 fun p hp' => by simpa using h p (hp.mem_iff.2 hp')
end Go.Pw.Md

namespace Go.Pw
section
variable {P : Program} {w0 : World} {n : Nat} {ρ : Env} {L : Chunk}
theorem Spec.enterM4 {f : FuncId} {fn : Func} {c : Code} {Φ : Value → Chunk → Prop} {Ψ : List PanicEntry → Chunk → Prop} {v0 v1 v2 v3 : Value} (hf : P.funcs[f]? = some fn) (hb : fn.body = some c) (hn : fn.ntmps = n) (hle : 4 ≤ n) (h : CW P w0 none n c (bodyM P w0 fn Φ Ψ) (upd (upd (upd (upd und 0 v0) 1 v1) 2 v2) 3 v3) [] L) : Spec P w0 f [v0, v1, v2, v3] L Φ Ψ :=
  Spec.enterM hf hb hn hle (fun t => by rcases t with _ | _ | _ | _ | t <;> simp [upd, und]) h
theorem Spec.enterM5 {f : FuncId} {fn : Func} {c : Code} {Φ : Value → Chunk → Prop} {Ψ : List PanicEntry → Chunk → Prop} {v0 v1 v2 v3 v4 : Value} (hf : P.funcs[f]? = some fn) (hb : fn.body = some c) (hn : fn.ntmps = n) (hle : 5 ≤ n) (h : CW P w0 none n c (bodyM P w0 fn Φ Ψ) (upd (upd (upd (upd (upd und 0 v0) 1 v1) 2 v2) 3 v3) 4 v4) [] L) : Spec P w0 f [v0, v1, v2, v3, v4] L Φ Ψ :=
  Spec.enterM hf hb hn hle (fun t => by rcases t with _ | _ | _ | _ | _ | t <;> simp [upd, und]) h
def markB (Ds : List Nat) : Chunk := Ds.map fun D => (D, .deferred (some []))
theorem upd_mid {A B : Chunk} {b : Nat} {o o' : Obj} : UpdC (A ++ (b, o) :: B) b o' (A ++ (b, o') :: B) := inferInstance
theorem Lv.marks {fn : Func} {Φ : Value → Chunk → Prop} {Ψ : List PanicEntry → Chunk → Prop} {v : Value} {L' B : Chunk} (hr : ∀ L, Res P fn ρ L v) (hp : Φ v L') : ∀ (Ds : List Nat) (A : Chunk), L'.Sublist (A ++ B) → Lv P w0 fn Φ Ψ (Ds.map mk) .returning ρ (A ++ (markB Ds ++ B))
  | [], A, hs => ⟨v, L', by simpa [markB] using hs, hr _, hp⟩
  | D :: Ds, A, hs => by
    refine ⟨by simp, .inl ⟨D, A ++ (D, .deferred none) :: (markB Ds ++ B), rfl, ⟨by simp [markB]⟩, upd_mid, ?_⟩⟩
    have := Lv.marks (fn := fn) (Φ := Φ) (Ψ := Ψ) hr hp Ds (A ++ [(D, .deferred none)]) (hs.trans (by rw [List.append_assoc]; exact List.Sublist.append_left (List.sublist_append_right ..) A))
    rwa [List.append_assoc] at this
theorem bodyM.retMs {fn : Func} {Φ : Value → Chunk → Prop} {Ψ : List PanicEntry → Chunk → Prop} {v : Value} {A B : Chunk} {Ds : List Nat} (L' : Chunk) (hr : ∀ L, Res P fn ρ L v) (hs : L'.Sublist (A ++ B)) (h : Φ v L') : bodyM P w0 fn Φ Ψ .ret ρ (Ds.map mk) (A ++ (markB Ds ++ B)) := Lv.marks hr h Ds A hs
theorem bodyM.nrmMs {fn : Func} {Φ : Value → Chunk → Prop} {Ψ : List PanicEntry → Chunk → Prop} {v : Value} {A B : Chunk} {Ds : List Nat} (L' : Chunk) (hr : ∀ L, Res P fn ρ L v) (hs : L'.Sublist (A ++ B)) (h : Φ v L') : bodyM P w0 fn Φ Ψ .normal ρ (Ds.map mk) (A ++ (markB Ds ++ B)) := Lv.marks hr h Ds A hs
end
end Go.Pw

namespace Go.Pw

/-- Elements' cells, one behind the other. -/
def flR {α : Type} (f : α → List Value) (es : List α) : List Value := (es.map f).flatten
section
variable {α : Type} {f : α → List Value} {s : Nat}
theorem flR_length (hf : ∀ a, (f a).length = s) : ∀ es : List α, (flR f es).length = es.length * s
  | [] => by simp [flR]
  | a :: es => by
    have := flR_length hf es
    simp only [flR, List.map_cons, List.flatten_cons, List.length_append, List.length_cons, Nat.add_mul, hf] at this ⊢
    omega
theorem flR_append (a b : List α) : flR f (a ++ b) = flR f a ++ flR f b := by simp [flR]
theorem flR_one (a : α) : flR f [a] = f a := by simp [flR]
theorem flR_split (hf : ∀ a, (f a).length = s) {es : List α} {i : Nat} (h : i < es.length) : flR f es = flR f (es.take i) ++ (f es[i] ++ flR f (es.drop (i + 1))) ∧ (flR f (es.take i)).length = i * s := by
  refine ⟨?_, by rw [flR_length hf, List.length_take, Nat.min_eq_left (Nat.le_of_lt h)]⟩
  have e : es = es.take i ++ ([es[i]] ++ es.drop (i + 1)) := by
    rw [List.singleton_append, ← List.drop_eq_getElem_cons h, List.take_append_drop]
  have e2 := congrArg (flR f) e
  rw [flR_append, flR_append, flR_one] at e2
  exact e2
theorem flR_cut (hf : ∀ a, (f a).length = s) {es : List α} {i k : Nat} {pre rest : List Value} (hk : pre.length = k) (h : i < es.length) : CutL (pre ++ (flR f es ++ rest)) (k + i * s) s (f es[i]) := by
  obtain ⟨h1, h2⟩ := flR_split hf h
  have h3 := hf es[i]
  refine ⟨?_, ?_⟩
  · rw [h1]; simp only [List.length_append]; omega
  · rw [h1]
    have e : pre ++ ((flR f (es.take i) ++ (f es[i] ++ flR f (es.drop (i + 1)))) ++ rest) = (pre ++ flR f (es.take i)) ++ (f es[i] ++ (flR f (es.drop (i + 1)) ++ rest)) := by simp
    have hl : (pre ++ flR f (es.take i)).length = k + i * s := by rw [List.length_append, hk, h2]
    rw [e, ← hl, List.drop_left, List.take_append_of_le_length (by omega), List.take_of_length_le (by omega)]
theorem flR_put (hf : ∀ a, (f a).length = s) {es : List α} {i k : Nat} {pre rest : List Value} (hk : pre.length = k) (h : i < es.length) (a : α) : PutL (pre ++ (flR f es ++ rest)) (k + i * s) (f a) (pre ++ (flR f (es.set i a) ++ rest)) := by
  obtain ⟨h1, h2⟩ := flR_split hf h
  have h3 := hf es[i]
  have h4 := hf a
  have e : pre ++ (flR f es ++ rest) = (pre ++ flR f (es.take i)) ++ (f es[i] ++ (flR f (es.drop (i + 1)) ++ rest)) := by rw [h1]; simp
  have hl : (pre ++ flR f (es.take i)).length = k + i * s := by rw [List.length_append, hk, h2]
  have e2 : flR f (es.set i a) = flR f (es.take i) ++ (f a ++ flR f (es.drop (i + 1))) := by
    rw [List.set_eq_take_append_cons_drop, if_pos h]
    simp [flR]
  refine ⟨by rw [e]; simp only [List.length_append] at hl ⊢; omega, ?_⟩
  rw [e, ← hl, List.take_left, ← List.drop_drop, List.drop_left, h4, ← h3, List.drop_left, e2]
  simp
theorem flR_get (hf : ∀ a, (f a).length = s) {es : List α} {i : Nat} (h : i < es.length) : ((flR f es).drop (i * s)).take s = f es[i] := by
  have := (flR_cut (pre := []) (rest := []) (k := 0) hf rfl h).out.2
  simpa using this
theorem flR_putZ (hf : ∀ a, (f a).length = s) {st : List α} {i k : Nat} {pre rest Z : List Value} (hk : pre.length = k) (h : i ≤ st.length) (hz : Z.length = (st.length - i) * s) : PutL (pre ++ (flR f st ++ rest)) (k + i * s) Z (pre ++ (flR f (st.take i) ++ (Z ++ rest))) := by
  have e1 : flR f st = flR f (st.take i) ++ flR f (st.drop i) := by rw [← flR_append, List.take_append_drop]
  have h2 : (flR f (st.take i)).length = i * s := by rw [flR_length hf, List.length_take, Nat.min_eq_left h]
  have h3 : (flR f (st.drop i)).length = Z.length := by rw [flR_length hf, List.length_drop, hz]
  have hl : (pre ++ flR f (st.take i)).length = k + i * s := by rw [List.length_append, hk, h2]
  have e : pre ++ (flR f st ++ rest) = (pre ++ flR f (st.take i)) ++ (flR f (st.drop i) ++ rest) := by rw [e1]; simp
  refine ⟨by rw [e]; simp only [List.length_append] at hl ⊢; omega, ?_⟩
  rw [e, ← hl, List.take_left, ← List.drop_drop, List.drop_left, ← h3, List.drop_left]
  simp
theorem flR_rd (hf : ∀ a, (f a).length = s) {L : Chunk} {b k cap : Nat} {e : TypeId} {fr : Nat × Nat} {es : List α} {pre rest : List Value} (hk : pre.length = k) (h : (b, .cells (pre ++ (flR f es ++ rest)).toArray e fr) ∈ L) (hc : es.length ≤ cap) :
    Rd L s (.slice (some ⟨b, k, none⟩) es.length cap) es.length (flR f es) := by
  have hl := flR_length hf es
  refine ⟨hl, .inr ⟨b, k, cap, _, e, fr, rfl, h, ?_, ?_, hc⟩⟩
  · simp; omega
  · rw [List.toList_toArray, ← hk, List.drop_left, ← hl, List.take_left]
end
section
variable {P : Program} {w0 : World} {rd : Option Nat} {n : Nat} {K : Post} {ρ : Env} {ds : List Deferred} {L R : Chunk} {l : List Oper} {ops : Array Oper} {ty : TypeId} {pos : String} {after : Array Edge}
theorem sng_zeroCells {zs : List Value} (h : SngL zs) (m : Nat) : ∀ v ∈ (Builtin.zeroCells zs.toArray m).toList, Sng v := by
  intro v hv
  simp only [Builtin.zeroCells, Array.toList_map, List.mem_map, Array.toList_range, List.mem_range] at hv
  obtain ⟨i, hi, rfl⟩ := hv
  have hz : zs.toArray.size ≠ 0 := by intro h0; rw [h0] at hi; omega
  have hlt : i % zs.toArray.size < zs.toArray.size := Nat.mod_lt _ (Nat.pos_of_ne_zero hz)
  rw [getElem!_pos zs.toArray _ hlt]
  exact h.out _ (by simp)
/-- A row is made zero. -/
theorem ef_clear {t e et : TypeId} {x : Operand} {b k m c : Nat} {lc lc' zs : List Value} {z : Value} {L' : Chunk} (ht : Und P t (.slice e)) (hz : Zer P e z) (hzc : CellsL z zs) (hsng : SngL zs)
    (hx : EvO ρ x (.slice (some ⟨b, k, none⟩) m c)) (hm : m ≠ 0) (hb : InC L b (.cells lc.toArray et (0, 0))) (hp : PutL lc k (Builtin.zeroCells zs.toArray m).toList lc') (hu : UpdC L b (.cells lc'.toArray et (0, 0)) L') :
    Ef P ρ L (.call { callee := .builtin .clear, args := #[x], argTypes := #[t] }) ty (fun v L'' => v = .tuple #[] ∧ L'' = L') noPanic := by
  refine ⟨fun c h => (by cases h), fun w0 w rd a next Q o ho hty ha hst hn _ => ?_⟩
  have h1 := hp.out.1
  have h2 := hp.out.2
  obtain ⟨w', hr, hs⟩ := run_storeCells_st (P := P) (k := k) _ 0 w lc.toArray L L' (sng_zeroCells hsng m) hst hb (by simpa using h1) (by rw [show lc.toArray.toList = lc from rfl, Nat.add_zero, h2]; exact hu)
  have hrun : (execOp (ev ρ) o).run P w = .ok (.value (.tuple #[])) w' := by
    unfold execOp
    obtain ⟨q, rfl⟩ : ∃ q, m = q + 1 := ⟨m - 1, by omega⟩
    simp only [ho, resolve, invoke, builtin, Sem.run_bind, Sem.run_pure, Result.andThen_ok, List.map_toArray, List.map_cons, List.map_nil, hx.out]
    simp [Builtin.clear_, run_underlying ht.out, hz.out, hzc.out, hr]
  rw [hrun]
  exact hn _ _ L' hs ⟨rfl, rfl⟩
theorem OW.clear {t e et : TypeId} {x : Operand} {b k m c : Nat} {lc lc' zs : List Value} {z : Value} {L' : Chunk} [ht : Und P t (.slice e)] [hz : Zer P e z] [hzc : CellsL z zs] [hsng : SngL zs]
    [hx : EvO ρ x (.slice (some ⟨b, k, none⟩) m c)] (hm : m ≠ 0) [hb : InC L b (.cells lc.toArray et (0, 0))] (hp : PutL lc k (Builtin.zeroCells zs.toArray m).toList lc') [hu : UpdC L b (.cells lc'.toArray et (0, 0)) L']
    (next : OW P w0 rd n ops K l ρ ds L') : OW P w0 rd n ops K (⟨none, .call { callee := .builtin .clear, args := #[x], argTypes := #[t] }, ty, pos, after, none⟩ :: l) ρ ds L :=
  OW.eff (ef_clear ht hz hzc hsng hx hm hb hp hu) (fun v L'' ⟨h1, h2⟩ => by subst h1 h2; exact next) (fun _ _ h => h.elim)
end
end Go.Pw

namespace Go.Pw.Md
def overK (a : Int) (bs : List Int) (ad k : Int) (b : List Int) : List Int := b.zipIdx.map fun x => if a ≤ ad + (x.2 : Int) ∧ ad + (x.2 : Int) < k then bs.getD (ad + x.2 - a).toNat 0 else x.1
def agreesK (a : Int) (bs : List Int) (ad k : Int) (b : List Int) : Prop := ∀ d : Nat, d < b.length → a ≤ ad + (d : Int) → ad + (d : Int) < k → b.getD d 0 = -1 ∨ b.getD d 0 = bs.getD (ad + d - a).toNat 0
instance (a : Int) (bs : List Int) (ad k : Int) (b : List Int) : Decidable (agreesK a bs ad k b) := by unfold agreesK; infer_instance
theorem overK_len (a : Int) (bs : List Int) (ad k : Int) (b : List Int) : (overK a bs ad k b).length = b.length := by simp [overK]
theorem overK_get {a : Int} {bs : List Int} {ad k : Int} {b : List Int} {d : Nat} (hd : d < b.length) : (overK a bs ad k b)[d]? = some (if a ≤ ad + (d : Int) ∧ ad + (d : Int) < k then bs.getD (ad + d - a).toNat 0 else b[d]) := by
  simp [overK, List.getElem?_zipIdx, List.getElem?_eq_getElem hd]
theorem overK_same {a : Int} {bs : List Int} {ad k : Int} {b : List Int} (h : ∀ d : Nat, d < b.length → ¬ (a ≤ ad + (d : Int) ∧ ad + (d : Int) < k)) : overK a bs ad k b = b := by
  apply List.ext_getElem?
  intro d
  by_cases hd : d < b.length
  · rw [overK_get hd, if_neg (h d hd), List.getElem?_eq_getElem hd]
  · rw [List.getElem?_eq_none (by rw [overK_len]; omega), List.getElem?_eq_none (by omega)]
theorem overK_start {a : Int} {bs : List Int} {ad : Int} {b : List Int} : overK a bs ad (max a ad) b = b := overK_same fun d _ h => by omega
theorem over_eq {a : Int} {bs : List Int} {p : Pc} : (over a bs p).b = overK a bs p.ad (a + bs.length) p.b := rfl
theorem overK_end {a : Int} {bs : List Int} {p : Pc} (hl : (p.b.length : Int) = p.room) : overK a bs p.ad (min (a + bs.length) (p.ad + p.room)) p.b = (over a bs p).b := by
  rw [over_eq]
  apply List.ext_getElem?
  intro d
  by_cases hd : d < p.b.length
  · rw [overK_get hd, overK_get hd]
    congr 1
    by_cases hc : a ≤ p.ad + (d : Int) ∧ p.ad + (d : Int) < a + bs.length
    · rw [if_pos hc, if_pos (by omega)]
    · rw [if_neg hc, if_neg (by omega)]
  · rw [List.getElem?_eq_none (by rw [overK_len]; omega), List.getElem?_eq_none (by rw [overK_len]; omega)]
theorem overK_step {a : Int} {bs : List Int} {ad k : Int} {b : List Int} (h1 : a ≤ k) (h2 : ad ≤ k) (h3 : k < ad + b.length) : overK a bs ad (k + 1) b = (overK a bs ad k b).set (k - ad).toNat (bs.getD (k - a).toNat 0) := by
  apply List.ext_getElem?
  intro d
  rw [List.getElem?_set]
  by_cases hd : d < b.length
  · rw [overK_get hd]
    by_cases hk : (k - ad).toNat = d
    · rw [if_pos hk, if_pos (by omega), if_pos (by rw [overK_len]; omega)]
      congr 2
      omega
    · rw [if_neg hk, overK_get hd]
      congr 1
      by_cases hc : a ≤ ad + (d : Int) ∧ ad + (d : Int) < k
      · rw [if_pos hc, if_pos (by omega)]
      · rw [if_neg hc, if_neg (by omega)]
  · rw [List.getElem?_eq_none (by rw [overK_len]; omega), if_neg (by omega), List.getElem?_eq_none (by rw [overK_len]; omega)]
theorem overK_old {a : Int} {bs : List Int} {ad k : Int} {b : List Int} {d : Nat} (hd : d < b.length) (hk : (d : Int) = k - ad) : (overK a bs ad k b)[d]? = some b[d] := by
  rw [overK_get hd, if_neg (by omega)]
theorem over_none {a : Int} {bs : List Int} {p : Pc} (hl : (p.b.length : Int) = p.room) (h : min (a + bs.length) (p.ad + p.room) ≤ max a p.ad) : over a bs p = p := by
  have e : (over a bs p).b = p.b := by
    rw [over_eq]
    exact overK_same fun d hd hc => by omega
  have : over a bs p = { p with b := (over a bs p).b } := rfl
  rw [this, e]
theorem agreesK_start {a : Int} {bs : List Int} {ad : Int} {b : List Int} : agreesK a bs ad (max a ad) b := fun d _ h1 h2 => by omega
theorem agreesK_end {a : Int} {bs : List Int} {p : Pc} (hl : (p.b.length : Int) = p.room) : agreesK a bs p.ad (min (a + bs.length) (p.ad + p.room)) p.b ↔ agrees a bs p :=
  ⟨fun h d hd h1 h2 => h d hd h1 (by omega), fun h d hd h1 h2 => h d hd h1 (by omega)⟩
theorem agrees_none {a : Int} {bs : List Int} {p : Pc} (hl : (p.b.length : Int) = p.room) (h : min (a + bs.length) (p.ad + p.room) ≤ max a p.ad) : agrees a bs p := fun d hd h1 h2 => by omega
theorem agreesK_step {a : Int} {bs : List Int} {ad k : Int} {b : List Int} (h1 : a ≤ k) (h2 : ad ≤ k) {d : Nat} (hd : d < b.length) (hk : (d : Int) = k - ad) :
    agreesK a bs ad (k + 1) b ↔ agreesK a bs ad k b ∧ (b[d] = -1 ∨ b[d] = bs.getD (k - a).toNat 0) := by
  have hb : b.getD d 0 = b[d] := by rw [List.getD_eq_getElem?_getD, List.getElem?_eq_getElem hd]; rfl
  constructor
  · intro h
    refine ⟨fun e he h1 h2 => h e he h1 (by omega), ?_⟩
    have := h d hd (by omega) (by omega)
    rw [hb, show ad + (d : Int) - a = k - a by omega] at this
    exact this
  · rintro ⟨h, h3⟩ e he g1 g2
    by_cases hed : e = d
    · subst hed
      rw [hb, show ad + (e : Int) - a = k - a by omega]
      exact h3
    · exact h e he g1 (by omega)
end Go.Pw.Md

namespace Go.Pw
section
variable {P : Program} {w0 : World} {rd : Option Nat} {n : Nat} {K : Post} {ρ : Env} {ds : List Deferred} {L R : Chunk} {l : List Oper} {ops : Array Oper} {ty : TypeId} {d : Nat} {pos : String} {after : Array Edge}
theorem zeros_flat (zs : List Value) : ∀ c : Nat, ((Array.range (c * zs.length)).map fun m => zs.toArray[m % zs.toArray.size]!) = (List.replicate c zs).flatten.toArray
  | 0 => by simp
  | c + 1 => by
    have ih := zeros_flat zs c
    apply Array.ext'
    have ih' := congrArg Array.toList ih
    simp only [Array.toList_map, Array.toList_range, List.toList_toArray] at ih' ⊢
    rw [Nat.add_mul, Nat.one_mul, List.range_add, List.map_append, ih', List.replicate_succ']
    rw [List.flatten_append]
    congr 1
    simp only [List.map_map, List.flatten_cons, List.flatten_nil, List.append_nil]
    apply List.ext_getElem
    · simp
    · intro i h1 h2
      simp only [List.length_map, List.length_range] at h1
      simp [Nat.add_comm, Nat.mod_eq_of_lt h1, h1]
theorem ef_makeSliceS {t e : TypeId} {x y : Operand} {k k' : IntKind} {s a c bytes : Nat} {i j : Int} {z : Value} {zs : List Value} (ht : Und P t (.slice e)) (hz : Siz P e s) (hzv : Zer P e z) (hzc : CellsL z zs) (hzl : zs.length = s) (hby : Byt P e bytes) (hx : EvO ρ x (.int k i)) (hy : EvO ρ y (.int k' j))
    (h1 : ToN i a) (h2 : ToN j c) (h : 0 ≤ i ∧ i ≤ j ∧ j ≤ 140737488355328 ∧ j * bytes ≤ 140737488355328) : Ef P ρ L (.makeSlice t x y) ty (fun v L' => ∃ b, v = .slice (some ⟨b, 0, none⟩) a c ∧ L' = (b, .cells (List.replicate c zs).flatten.toArray e (0, 0)) :: L) noPanic := by
  refine ⟨fun c h => (by cases h), fun w0 w rd a₀ next Q o ho hty ha hst hn _ => ?_⟩
  obtain ⟨inf, hi, hib⟩ := hby.out
  have hti : ∀ w, (typeInfo e).run P w = .ok inf w := fun w => by simp [typeInfo, hi]
  have e1 : IntKind.i64.wrap i = i := IntWalk.i64_in i (by omega)
  have e2 : IntKind.i64.wrap j = j := IntWalk.i64_in j (by omega)
  have hb : (inf.bytes : Int) * j ≤ 140737488355328 := by rw [hib, Int.mul_comm]; exact h.2.2.2
  have hrun : (execOp (ev ρ) o).run P w = .ok (.value (.slice (some ⟨w.heap.size, 0, none⟩) a c)) { w with heap := w.heap.push (.cells (List.replicate c zs).flatten.toArray e) } := by
    have n1 : ¬ j < 0 := by omega
    have n2 : ¬ i < 0 := by omega
    have n3 : ¬ i > j := by omega
    have n4 : ¬ ((inf.bytes : Int) * j > 2 ^ 48) := by omega
    have h1' := h1.out
    have h2' := h2.out
    have hask : (askRoom (c * inf.bytes)).run P w = .ok () w := by unfold askRoom; split <;> simp [mark, Sem.run]
    have hrow : ∀ ws : Array Value, (ws = if c * s = 0 then #[] else zs.toArray) → (Array.range (c * s)).map (fun m => ws[m % ws.size]!) = (List.replicate c zs).flatten.toArray := fun ws hws => by
      by_cases hc0 : c * s = 0
      · have hf : (List.replicate c zs).flatten = [] := List.eq_nil_of_length_eq_zero (by simp [List.length_flatten, hzl, hc0])
        rw [hf, hc0]; simp
      · rw [hws, if_neg hc0, ← hzl]; exact zeros_flat zs c
    unfold execOp
    simp only [ho, Instr.makeSlice, hx.out, hy.out, Sem.run_bind, run_underlying ht.out, Result.andThen_ok, asInt, asIntOf, Sem.run_pure, hti, e1, e2, n1, n2, n3, n4, decide_false, Bool.or_false, Bool.false_or, Bool.false_eq_true, if_false, hz.out, h1', h2', hask]
    by_cases hc0 : c * s = 0
    · simp only [hc0, if_true, Sem.run_bind, Sem.run_pure, Result.andThen_ok, run_newRow]
      rw [← hc0, hrow #[] (by rw [if_pos hc0])]
    · simp only [hc0, if_false, Sem.run_bind, hzv.out, Result.andThen_ok, Sem.run_pure, hzc.out, hrow zs.toArray (by rw [if_neg hc0]), run_newRow]
  rw [hrun]
  exact hn _ _ _ (hst.alloc _) ⟨_, rfl, rfl⟩
theorem RW.makeSliceS {t e : TypeId} {x y : Operand} {k k' : IntKind} {s a c bytes : Nat} {i j : Int} {z : Value} {zs : List Value} {g : Option (Nat × Bool)} [hg : GdT ops ρ g] [ht : Und P t (.slice e)] [hz : Siz P e s] [hzv : Zer P e z] [hzc : CellsL z zs] [hzl : LenL zs s] [hby : Byt P e bytes] [hx : EvO ρ x (.int k i)] [hy : EvO ρ y (.int k' j)] [h1 : ToN i a] [h2 : ToN j c]
    (h : 0 ≤ i ∧ i ≤ j ∧ j ≤ 140737488355328 ∧ j * bytes ≤ 140737488355328)
    (next : ∀ b, ∃ R', (∀ p ∈ R, p ∈ R') ∧ (∀ p ∈ R', p ∈ (b, Obj.cells (List.replicate c zs).flatten.toArray e (0, 0)) :: L) ∧ RW P w0 rd n ops K l R' (upd ρ d (.slice (some ⟨b, 0, none⟩) a c)) ds ((b, .cells (List.replicate c zs).flatten.toArray e (0, 0)) :: L)) :
    RW P w0 rd n ops K (⟨some d, .makeSlice t x y, ty, pos, after, g⟩ :: l) R ρ ds L :=
  RW.eff hg.out (by rfl) (ef_makeSliceS (a := a) (c := c) ht hz hzv hzc hzl.out hby hx hy h1 h2 h) (fun v L' ⟨b, h1, h2⟩ => by subst h1 h2; exact next b) (fun _ _ h => h.elim)
theorem Rd.flat {b c cap : Nat} {zs : List Value} {e : TypeId} {fr : Nat × Nat} {s : Nat} [h : InC L b (.cells (List.replicate c zs).flatten.toArray e fr)] (hl : zs.length = s) (hc : c ≤ cap) : Rd L s (.slice (some ⟨b, 0, none⟩) c cap) c (List.replicate c zs).flatten :=
  Rd.blk (h := h) (by simp [List.length_flatten, hl]) hc
class FuncT (P : Program) (t : TypeId) : Prop where out : ∃ a b c, P.underlying t = some (.func a b c)
theorem run_eqFn {P : Program} {w : World} (d' : Nat) {t : TypeId} {f : Fn} {a b : Array Value} (ht : FuncT P t) : (Op.equalIn (d' + 1) t (.func f a b) .nilFunc).run P w = .ok false w := by
  obtain ⟨_, _, _, h⟩ := ht.out
  simp [Op.equalIn, run_underlying h]
instance op1EqlNilFn {t yt : TypeId} {x : Operand} {f : Fn} {a b : Array Value} [ht : FuncT P t] [hx : EvO ρ x (.func f a b)] : Op1 P ρ L (.binOp .eql t x (.const .nilFunc) yt) ty (.bool false) :=
  ⟨yl_of_run (fun c h => (by cases h)) fun w o ho _ _ => by
    have h1 : (Op.equal t (.func f a b) .nilFunc).run P w = .ok false w := run_eqFn 9999 ht
    have hc : ev ρ (.const .nilFunc) = .nilFunc := rfl
    unfold execOp
    simp [ho, hx.out, hc, eqGuard, binOp, h1]⟩
/-- A region that neither panics nor leaves. -/
def neverK : Post := fun _ _ _ _ => False
instance : StdC neverK := ⟨fun _ _ _ _ _ h => h⟩
theorem CW.calm {c : Code} {next : Env → List Deferred → Chunk → Prop} (h : CW P w0 rd n c (thenK next neverK) ρ ds L) : CW P w0 rd n c (thenK next K) ρ ds L :=
  CW.mono h fun e ρ' ds' L' h => by
    cases e with
    | normal => exact h
    | _ => exact h.elim
end
end Go.Pw
