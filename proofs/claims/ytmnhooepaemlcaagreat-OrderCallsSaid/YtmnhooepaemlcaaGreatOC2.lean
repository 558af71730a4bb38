/-
  For every input the law OrderCalls returns true, and each argument reads behind the call as it read before. This text holds lemmas for it (part 2).
  Conditions: none.
-/
import Derived.Test.YtmnhooepaemlcaaGreatOC1
import Derived.Maps.RangeRun
import Derived.ChangeKeysEq
import Derived.Laws.Externs
import Derived.Sort.AssemblyPlain
import Derived.Sort.LotD5
import Derived.Test.YtmnhooepaemlcaaGreatProg
import Derived.ProofKit
import Derived.OpenShut
import Derived.Deep.Slices
import Derived.Stop.Joined
set_option linter.all false
namespace Go.Pw
section
variable {P : Program} {w0 : World} {rd : Option Nat} {n : Nat} {K : Post} {ρ : Env} {ds : List Deferred} {L : Chunk} {l : List Oper} {ops : Array Oper} {ty : TypeId}
instance opaRange {t kt et : TypeId} {x : Operand} {m c : Nat} {es : List MapEntry} [ht : Und P t (.map kt et)] [hx : EvO ρ x (.map (some m))] [hin : InC L m (.map es.toArray c)] : OpA P ρ L (.range t x) ty (fun b => .pointer (some ⟨b, 0, none⟩)) (.mapIter (some m) c #[] c) :=
 ⟨fun c h => (by cases h), fun w o ho _ hp => ⟨{ w with heap := w.heap.push (.mapIter (some m) c #[] c) }, by
  have h := run_range_map (P := P) w t kt et m es.toArray c ht.out (hp _ _ hin.out)
  unfold execOp; simp only [ho, hx.out, Sem.run_bind, h, Result.andThen_ok, Sem.run_pure]; rfl, rfl, rfl, rfl⟩⟩
theorem St.setBlock {w w1 : World} {L L' : Chunk} {r : Nat} {o o' : Obj} (h : St w0 w L) (hw : w1 = w ∨ w1 = w.drew) (hi : InC L r o) (hu : UpdC L r o' L') : St w0 (ChangeMaps.setBlock w1 r o') L' := by
 have h1 : St w0 w1 L := by rcases hw with rfl | rfl; exact h; exact h.drew
 exact h1.put hi hu
theorem ef_next {x : Operand} {r m since c0 clock : Nat} {seen : Array Nat} {es : List MapEntry} {C : Chunk → Chunk} (hx : EvO ρ x (.pointer (some ⟨r, 0, none⟩))) (hat : At L [(r, .mapIter (some m) since seen c0)] C) (hin : InC L m (.map es.toArray clock)) (hold : ∀ e ∈ es, e.born < since) (hsc : since ≤ c0) :
  Ef P ρ L (.next x false) ty (fun v L' => ((leftOf es.toArray seen).size = 0 ∧ v = .tuple #[.bool false] ∧ L' = L) ∨ ∃ e ∈ (leftOf es.toArray seen).toList, v = .tuple #[.bool true, e.key, e.val] ∧ L' = C [(r, .mapIter (some m) since (seen.push e.born) clock)]) noPanic :=
 ⟨fun c h => (by cases h), fun w0 w rd a next Q o ho hty ha hst hn hp => by
  obtain ⟨A, B, hL, hC⟩ := hat.out
  have hir : InC L r (.mapIter (some m) since seen c0) := ⟨by rw [hL]; simp⟩
  have hr := hst.pn _ _ hir.out
  have hm := hst.pn _ _ hin.out
  rcases run_next_at (P := P) w ty r m since c0 seen es.toArray clock hr hm (fun x hx => hold x (by simpa using hx)) hsc with ⟨h0, h1⟩ | ⟨e, he, w1, hw, h1⟩
  ·have h2 : (execOp (ev ρ) o).run P w = .ok (.value (.tuple #[.bool false])) w := by
    unfold execOp; simp only [ho, hty, hx.out, Sem.run_bind, h1, Result.andThen_ok, Sem.run_pure]
   rw [h2]
   exact hn _ _ L hst (.inl ⟨h0, rfl, rfl⟩)
  ·have h2 : (execOp (ev ρ) o).run P w = .ok (.value (.tuple #[.bool true, e.key, e.val])) (ChangeMaps.setBlock w1 r (.mapIter (some m) since (seen.push e.born) clock)) := by
    unfold execOp; simp only [ho, hty, hx.out, Sem.run_bind, h1, Result.andThen_ok, Sem.run_pure]
   rw [h2]
   have hu : UpdC L r (.mapIter (some m) since (seen.push e.born) clock) (C [(r, .mapIter (some m) since (seen.push e.born) clock)]) := ⟨A, B, .mapIter (some m) since seen c0, by rw [hL, List.append_assoc]; rfl, by rw [hC, List.append_assoc]; rfl⟩
   exact hn _ _ _ (hst.setBlock hw hir hu) (.inr ⟨e, he, rfl, rfl⟩)⟩
theorem OW.next {d : Tmp} {pos : String} {after : Array Edge} {x : Operand} {r m since c0 clock : Nat} {seen : Array Nat} {es : List MapEntry} {C : Chunk → Chunk} [hx : EvO ρ x (.pointer (some ⟨r, 0, none⟩))] [hat : At L [(r, .mapIter (some m) since seen c0)] C] [hin : InC L m (.map es.toArray clock)] (hold : ∀ e ∈ es, e.born < since) (hsc : since ≤ c0)
  (h0 : (leftOf es.toArray seen).size = 0 → OW P w0 rd n ops K l (upd ρ d (.tuple #[.bool false])) ds L)
  (h1 : ∀ e ∈ (leftOf es.toArray seen).toList, OW P w0 rd n ops K l (upd ρ d (.tuple #[.bool true, e.key, e.val])) ds (C [(r, .mapIter (some m) since (seen.push e.born) clock)])) :
  OW P w0 rd n ops K (⟨some d, .next x false, ty, pos, after, none⟩ :: l) ρ ds L :=
 OW.eff (ef_next hx hat hin hold hsc) (fun v L' h => by
  rcases h with ⟨h, rfl, rfl⟩ | ⟨e, he, rfl, rfl⟩
  ·exact h0 h
  ·exact h1 e he) (fun _ _ h => h.elim)
end
end Go.Pw

namespace Go.Pw
theorem run_partInt {P : Program} {w : World} {t : TypeId} {l : List Value} {k : Nat} {v : Value} [ha : Agg P t false] [h : NthL l k v] : (part t l.toArray k).run P w = .ok v w := by
 have := h.out
 have h2 : l.toArray[k]? = some v := by simpa using this
 unfold part
 simp [ha.out, h2]
theorem eq_two {P : Program} {t t1 t2 : TypeId} {k1 k2 : IntKind} {f1 f2 : Field} (hf : P.underlying t = some (.struct #[f1, f2])) (h1 : f1.type = t1 ∧ f1.offset = 0 ∧ f1.name ≠ "_") (h2 : f2.type = t2 ∧ f2.offset = 1 ∧ f2.name ≠ "_") [u1 : Und P t1 (.int k1)] [u2 : Und P t2 (.int k2)] [a1 : Agg P t1 false] [a2 : Agg P t2 false]
  (hs : P.stoodInHeld t = false) (w : World) (a b c d : Int) : (Op.equalIn 10000 t (.agg #[.int k1 a, .int k2 b]) (.agg #[.int k1 c, .int k2 d])).run P w = .ok (decide (a = c ∧ b = d)) w := by
 have hfo : P.fieldsOf t = #[f1, f2] := by simp [Program.fieldsOf, hf]
 rw [run_equalIn_struct w 9999 t _ _ (by rw [hfo]; exact hf) hs, hfo]
 have e1 : (Op.equalIn 9999 t1 (.int k1 a) (.int k1 c)).run P w = .ok (a == c) w := run_equalIn_int (P := P) w 9998 t1 k1 k1 a c u1.out
 have e2 : (Op.equalIn 9999 t2 (.int k2 b) (.int k2 d)).run P w = .ok (b == d) w := run_equalIn_int (P := P) w 9998 t2 k2 k2 b d u2.out
 have p1 : (part t1 #[.int k1 a, .int k2 b] 0).run P w = .ok (.int k1 a) w := run_partInt (l := [.int k1 a, .int k2 b])
 have p2 : (part t2 #[.int k1 a, .int k2 b] 1).run P w = .ok (.int k2 b) w := run_partInt (l := [.int k1 a, .int k2 b])
 have p3 : (part t1 #[.int k1 c, .int k2 d] 0).run P w = .ok (.int k1 c) w := run_partInt (l := [.int k1 c, .int k2 d])
 have p4 : (part t2 #[.int k1 c, .int k2 d] 1).run P w = .ok (.int k2 d) w := run_partInt (l := [.int k1 c, .int k2 d])
 simp only [Op.eqFields, h1.1, h1.2.1, h1.2.2, h2.1, h2.2.1, h2.2.2, ne_eq, not_false_eq_true, if_true, Sem.run_bind, p1, p2, p3, p4, Result.andThen_ok, e1, e2, Sem.run_ite]
 have f1' : (a == c) = decide (a = c) := beq_dec a c
 have f2' : (b == d) = decide (b = d) := beq_dec b d
 rw [f1', f2']
 by_cases ha : a = c <;> by_cases hb : b = d <;> simp [ha, hb]
end Go.Pw

namespace Go.Pw

/-- The number that a key is. -/
def kI : Value → Int
  | .int _ i => i
  | _ => 0
theorem kI_int (k : IntKind) (i : Int) : kI (.int k i) = i := rfl

/-- A map of this kind: keys apart, stamps apart, below the clock. -/
structure KV (q : IntKind) (es : List MapEntry) (c : Nat) : Prop where
  keys : keysI q es
  apart : (es.map fun e => kI e.key).Nodup
  births : (es.map MapEntry.born).Nodup
  old : ∀ e ∈ es, e.born < c
theorem KV.nil (q : IntKind) : KV q [] 0 := ⟨fun _ h => (by cases h), .nil, .nil, fun _ h => (by cases h)⟩

def idxI (j : Int) : List MapEntry → Option (Nat × Value)
  | [] => none
  | e :: es => if kI e.key = j then some (0, e.val) else (idxI j es).map fun p => (p.1 + 1, p.2)

theorem findNow_idx {k k' : IntKind} {j : Int} : ∀ (es : List MapEntry) (i : Nat), keysI k es → Instr.findNow (.int k') (.int k j) es i = some ((idxI j es).map fun p => (i + p.1, p.2))
  | [], i, _ => rfl
  | e :: es, i, h => by
    obtain ⟨m, hm⟩ := h e (List.mem_cons_self ..)
    have ih := findNow_idx (k' := k') (j := j) es (i + 1) (fun e he => h e (List.mem_cons_of_mem _ he))
    by_cases hjm : j = m
    · simp [Instr.findNow, hm, Instr.sameNow, hjm, idxI, kI]
    · have hb : (j == m) = false := by simpa using hjm
      have hb' : ¬ m = j := fun e => hjm e.symm
      simp only [Instr.findNow, hm, Instr.sameNow, if_true, hb, ih, idxI, kI, if_neg hb', Option.map_map]
      cases idxI j es <;> simp <;> omega

theorem idxI_some {j : Int} : ∀ {es : List MapEntry} {n : Nat} {v : Value}, idxI j es = some (n, v) → ∃ A e B, es = A ++ e :: B ∧ A.length = n ∧ kI e.key = j ∧ e.val = v ∧ ∀ a ∈ A, kI a.key ≠ j
  | [], _, _, h => by cases h
  | e :: es, n, v, h => by
    unfold idxI at h
    by_cases hk : kI e.key = j
    · rw [if_pos hk] at h; cases h
      exact ⟨[], e, es, rfl, rfl, hk, rfl, fun _ h => (by cases h)⟩
    · rw [if_neg hk] at h
      cases hi : idxI j es with
      | none => rw [hi] at h; cases h
      | some p =>
        rw [hi] at h; cases h
        obtain ⟨A, e', B, h1, h2, h3, h4, h5⟩ := idxI_some hi
        refine ⟨e :: A, e', B, by rw [h1]; rfl, by simp [h2], h3, h4, fun a ha => ?_⟩
        rcases List.mem_cons.1 ha with rfl | ha
        · exact hk
        · exact h5 a ha
theorem idxI_none {j : Int} : ∀ {es : List MapEntry}, idxI j es = none → ∀ e ∈ es, kI e.key ≠ j
  | [], _, _, h => by cases h
  | e :: es, h, x, hx => by
    unfold idxI at h
    by_cases hk : kI e.key = j
    · rw [if_pos hk] at h; cases h
    · rw [if_neg hk] at h
      have hi : idxI j es = none := by cases hi : idxI j es with
        | none => rfl
        | some p => rw [hi] at h; cases h
      rcases List.mem_cons.1 hx with rfl | hx
      · exact hk
      · exact idxI_none hi x hx
theorem findI_idx {k : IntKind} {j : Int} : ∀ {es : List MapEntry}, keysI k es → findI es j = (idxI j es).map (·.2)
  | [], _ => rfl
  | e :: es, h => by
    obtain ⟨m, hm⟩ := h e (List.mem_cons_self ..)
    have ih := findI_idx (j := j) fun e he => h e (List.mem_cons_of_mem _ he)
    by_cases hjm : j = m
    · simp [findI, hm, hjm, idxI, kI]
    · have hb' : ¬ m = j := fun e => hjm e.symm
      simp only [findI, hm, if_neg hjm, idxI, kI, if_neg hb', ih, Option.map_map]
      rfl

/-- A value set anew. -/
def setE (q : IntKind) (j : Int) (u : Value) (es : List MapEntry) : List MapEntry := es.map fun e => if kI e.key = j then ⟨.int q j, u, e.born⟩ else e
/-- A key struck. -/
def delE (j : Int) (es : List MapEntry) : List MapEntry := es.filter fun e => decide (kI e.key ≠ j)

theorem setE_at {q : IntKind} {j : Int} {u : Value} {A B : List MapEntry} {e : MapEntry} (hn : ((A ++ e :: B).map fun e => kI e.key).Nodup) (he : kI e.key = j) : setE q j u (A ++ e :: B) = A ++ ⟨.int q j, u, e.born⟩ :: B := by
  have hA : ∀ a ∈ A, ¬ kI a.key = j := fun a ha h => by
    rw [List.map_append, List.nodup_append] at hn
    exact hn.2.2 _ (List.mem_map.2 ⟨a, ha, rfl⟩) _ (List.mem_map.2 ⟨e, List.mem_cons_self .., rfl⟩) (h.trans he.symm)
  have hB : ∀ a ∈ B, ¬ kI a.key = j := fun a ha h => by
    rw [List.map_append, List.nodup_append, List.map_cons, List.nodup_cons] at hn
    exact hn.2.1.1 (List.mem_map.2 ⟨a, ha, h.trans he.symm⟩)
  unfold setE
  rw [List.map_append, List.map_cons, if_pos he]
  congr 1
  · exact (List.map_congr_left fun a ha => by simp [hA a ha]).trans (List.map_id _)
  · congr 1
    exact (List.map_congr_left fun a ha => by simp [hB a ha]).trans (List.map_id _)
theorem delE_at {j : Int} {A B : List MapEntry} {e : MapEntry} (hn : ((A ++ e :: B).map fun e => kI e.key).Nodup) (he : kI e.key = j) : delE j (A ++ e :: B) = A ++ B := by
  have hA : ∀ a ∈ A, ¬ kI a.key = j := fun a ha h => by
    rw [List.map_append, List.nodup_append] at hn
    exact hn.2.2 _ (List.mem_map.2 ⟨a, ha, rfl⟩) _ (List.mem_map.2 ⟨e, List.mem_cons_self .., rfl⟩) (h.trans he.symm)
  have hB : ∀ a ∈ B, ¬ kI a.key = j := fun a ha h => by
    rw [List.map_append, List.nodup_append, List.map_cons, List.nodup_cons] at hn
    exact hn.2.1.1 (List.mem_map.2 ⟨a, ha, h.trans he.symm⟩)
  unfold delE
  rw [List.filter_append, List.filter_cons_of_neg (by simp [he])]
  rw [List.filter_eq_self.2 fun a ha => by simp [hA a ha], List.filter_eq_self.2 fun a ha => by simp [hB a ha]]

theorem setE_keys {q : IntKind} {j : Int} {u : Value} (es : List MapEntry) : (setE q j u es).map (fun e => kI e.key) = es.map fun e => kI e.key := by
  unfold setE
  rw [List.map_map]
  refine List.map_congr_left fun e _ => ?_
  simp only [Function.comp_apply]
  split
  · rename_i h; exact h.symm
  · rfl
theorem setE_births {q : IntKind} {j : Int} {u : Value} (es : List MapEntry) : (setE q j u es).map MapEntry.born = es.map MapEntry.born := by
  unfold setE
  rw [List.map_map]
  refine List.map_congr_left fun e _ => ?_
  simp only [Function.comp_apply]
  split <;> rfl
theorem KV.set {q : IntKind} {es : List MapEntry} {c : Nat} {j : Int} {u : Value} (h : KV q es c) : KV q (setE q j u es) c :=
  ⟨fun e he => by
    obtain ⟨x, hx, rfl⟩ := List.mem_map.1 he
    split
    · exact ⟨_, rfl⟩
    · exact h.keys x hx,
   by rw [setE_keys]; exact h.apart, by rw [setE_births]; exact h.births,
   fun e he => by
    obtain ⟨x, hx, rfl⟩ := List.mem_map.1 he
    split
    · exact h.old x hx
    · exact h.old x hx⟩
theorem KV.del {q : IntKind} {es : List MapEntry} {c : Nat} {j : Int} (h : KV q es c) : KV q (delE j es) c :=
  ⟨fun e he => h.keys e (List.mem_filter.1 he).1, List.Nodup.sublist (List.filter_sublist.map _) h.apart, List.Nodup.sublist (List.filter_sublist.map _) h.births, fun e he => h.old e (List.mem_filter.1 he).1⟩
theorem KV.add {q : IntKind} {es : List MapEntry} {c : Nat} {j : Int} {u : Value} (h : KV q es c) (hno : ∀ e ∈ es, kI e.key ≠ j) : KV q (es ++ [⟨.int q j, u, c⟩]) (c + 1) :=
  ⟨fun e he => by
    rcases List.mem_append.1 he with he | he
    · exact h.keys e he
    · rw [List.mem_singleton.1 he]; exact ⟨_, rfl⟩,
   by
    rw [List.map_append, List.nodup_append]
    refine ⟨h.apart, by simp, fun x hx y hy e => ?_⟩
    obtain ⟨a, ha, rfl⟩ := List.mem_map.1 hx
    simp at hy
    subst hy
    exact hno a ha e,
   by
    rw [List.map_append, List.nodup_append]
    refine ⟨h.births, by simp, fun x hx y hy e => ?_⟩
    obtain ⟨a, ha, rfl⟩ := List.mem_map.1 hx
    simp at hy
    subst hy
    have := h.old a ha
    omega,
   fun e he => by
    rcases List.mem_append.1 he with he | he
    · have := h.old e he; omega
    · rw [List.mem_singleton.1 he]; simp⟩

/-! ### going over -/
/-- What an iterator has not handed out. -/
def Left (es : List MapEntry) (seen : Array Nat) (todo : List MapEntry) : Prop := todo = es.filter fun e => !seen.contains e.born
theorem Left.init (es : List MapEntry) : Left es #[] es := by
  unfold Left
  exact (List.filter_eq_self.2 fun _ _ => by simp).symm
theorem leftOf_mem {es : List MapEntry} {seen : Array Nat} {todo : List MapEntry} (h : Left es seen todo) {e : MapEntry} (he : e ∈ (leftOf es.toArray seen).toList) : e ∈ todo := by
  rw [h]; simpa [leftOf] using he
theorem leftOf_none {es : List MapEntry} {seen : Array Nat} {todo : List MapEntry} (h : Left es seen todo) (he : (leftOf es.toArray seen).size = 0) : todo = [] := by
  rw [h]
  simp only [leftOf] at he
  refine List.eq_nil_of_length_eq_zero ?_
  have := he
  rw [← Array.length_toList] at this
  simpa using this
/-- One is handed out. -/
theorem Left.step {q : IntKind} {es : List MapEntry} {c : Nat} {seen : Array Nat} {todo : List MapEntry} (hk : KV q es c) (h : Left es seen todo) {e : MapEntry} (he : e ∈ todo) :
    ∃ A B, todo = A ++ e :: B ∧ Left es (seen.push e.born) (A ++ B) := by
  obtain ⟨A, B, rfl⟩ := List.append_of_mem he
  refine ⟨A, B, rfl, ?_⟩
  have hn : ((A ++ e :: B).map MapEntry.born).Nodup := by rw [h]; exact List.Nodup.sublist (List.filter_sublist.map _) hk.births
  have e1 : (es.filter fun x => !(seen.push e.born).contains x.born) = (es.filter fun x => !seen.contains x.born).filter fun x => decide (x.born ≠ e.born) := by
    rw [List.filter_filter]
    refine List.filter_congr fun x _ => ?_
    simp only [Array.contains_push]
    by_cases hx : x.born = e.born
    · simp [hx]
    · have : (x.born == e.born) = false := by simpa using hx
      simp [this, hx]
  unfold Left at h ⊢
  rw [e1, ← h, List.filter_append, List.filter_cons_of_neg (by simp)]
  rw [List.map_append, List.nodup_append, List.map_cons, List.nodup_cons] at hn
  rw [List.filter_eq_self.2, List.filter_eq_self.2]
  · intro a ha
    simp only [decide_eq_true_eq]
    intro hh
    exact hn.2.1.1 (List.mem_map.2 ⟨a, ha, hh⟩)
  · intro a ha
    simp only [decide_eq_true_eq]
    intro hh
    exact hn.2.2 _ (List.mem_map.2 ⟨a, ha, rfl⟩) _ (List.mem_cons_self ..) hh
/-- The value of one that came is set anew. -/
theorem Left.set {q : IntKind} {es : List MapEntry} {seen : Array Nat} {todo : List MapEntry} {j : Int} {u : Value} (h : Left es seen todo) (hj : ∀ e ∈ es, kI e.key = j → seen.contains e.born = true) : Left (setE q j u es) seen todo := by
  unfold Left at h ⊢
  rw [h]
  unfold setE
  clear h
  induction es with
  | nil => rfl
  | cons x es ih =>
    have ih' := ih fun e he => hj e (List.mem_cons_of_mem _ he)
    have hx := hj x (List.mem_cons_self ..)
    rw [List.map_cons, List.filter_cons, List.filter_cons, ih']
    by_cases hk : kI x.key = j
    · simp only [if_pos hk, hx hk, Bool.not_true, Bool.false_eq_true, if_false]
    · simp only [if_neg hk]
/-- One that came is struck. -/
theorem Left.del {es : List MapEntry} {seen : Array Nat} {todo : List MapEntry} {j : Int} (h : Left es seen todo) (hj : ∀ e ∈ es, kI e.key = j → seen.contains e.born = true) : Left (delE j es) seen todo := by
  unfold Left at h ⊢
  rw [h]
  unfold delE
  rw [List.filter_filter]
  refine List.filter_congr fun x hx => ?_
  by_cases hk : kI x.key = j
  · have := hj x hx hk
    simp only [this, hk, Bool.not_true, Bool.false_and]
  · simp [hk]

section
variable {P : Program} {w0 : World} {rd : Option Nat} {n : Nat} {K : Post} {ρ : Env} {ds : List Deferred} {L R : Chunk} {l : List Oper} {ops : Array Oper} {ty : TypeId} {d : Nat} {pos : String} {after : Array Edge}

/-- The next entry of a map that is gone over. -/
theorem OW.nextE {x : Operand} {r m since c0 clock : Nat} {seen : Array Nat} {es todo : List MapEntry} {q : IntKind} {C : Chunk → Chunk} [hx : EvO ρ x (.pointer (some ⟨r, 0, none⟩))] [hat : At L [(r, .mapIter (some m) since seen c0)] C] [hin : InC L m (.map es.toArray clock)]
    (hk : KV q es clock) (hl : Left es seen todo) (hold : ∀ e ∈ es, e.born < since) (hsc : since ≤ c0)
    (h0 : todo = [] → OW P w0 rd n ops K l (upd ρ d (.tuple #[.bool false])) ds L)
    (h1 : ∀ A e B, todo = A ++ e :: B → e ∈ es → Left es (seen.push e.born) (A ++ B) → OW P w0 rd n ops K l (upd ρ d (.tuple #[.bool true, e.key, e.val])) ds (C [(r, .mapIter (some m) since (seen.push e.born) clock)])) :
    OW P w0 rd n ops K (⟨some d, .next x false, ty, pos, after, none⟩ :: l) ρ ds L :=
  OW.next hold hsc (fun h => h0 (leftOf_none hl h)) (fun e he => by
    have hm := leftOf_mem hl he
    obtain ⟨A, B, e1, e2⟩ := hl.step hk hm
    refine h1 A e B e1 ?_ e2
    rw [hl] at hm
    exact (List.mem_filter.1 hm).1)

theorem run_getMap {w : World} {m c : Nat} {es : List MapEntry} (hp : Pn w L) (hin : InC L m (.map es.toArray c)) : (getObj m).run P w = .ok (.map es.toArray c) w := by simp [getObj, Sem.run, hp _ _ hin.out]

/-- A key that is there gets another value. -/
theorem run_mapSet {w : World} {t kt et : TypeId} {k k' : IntKind} {j : Int} {m c : Nat} {es : List MapEntry} {u : Value} (ht : P.underlying t = some (.map kt et)) (hk : P.underlying kt = some (.int k')) (hp : Pn w L) (hin : InC L m (.map es.toArray c)) (hes : KV k es c)
    {v0 : Value} (hf : findI es j = some v0) : (Instr.mapUpdate t (.map (some m)) (.int k j) u).run P w = .ok () (w.putObj m (.map (setE k j u es).toArray c)) := by
  rw [findI_idx hes.keys] at hf
  cases hi : idxI j es with
  | none => rw [hi] at hf; cases hf
  | some p =>
    obtain ⟨i, v⟩ := p
    obtain ⟨A, e, B, rfl, hA, he, hv, _⟩ := idxI_some hi
    have hob := run_getMap (P := P) hp hin
    have hck : ∀ b, (Instr.checkKey b 10000 kt (.int k j)).run P w = .ok () w := fun b => run_checkInt 9999 b hk
    have h1 := findNow_idx (k := k) (k' := k') (j := j) (A ++ e :: B) 0 hes.keys
    rw [hi] at h1
    obtain ⟨ke, hke⟩ := hes.keys e (by simp)
    have hkj : ke = j := by rw [hke] at he; exact he
    subst hkj
    have hst : ∀ w : World, (Instr.keyThatStays (.int k ke) (.int k ke)).run P w = .ok (.int k ke) w := fun w => by simp [Instr.keyThatStays, Instr.sameBits]
    rw [setE_at hes.apart he]
    subst hA
    have hget : (A ++ e :: B).toArray[A.length]? = some e := by simp
    have hmod : ((A ++ e :: B).toArray.modify A.length fun x => { x with key := .int k ke, val := u }) = (A ++ ⟨.int k ke, u, e.born⟩ :: B).toArray := by
      apply Array.ext'
      simp [Array.toList_modify, List.modify_eq_set, hget]
    simp only [Instr.mapUpdate, Sem.run_bind, run_underlying ht, Result.andThen_ok, hob, hck, Instr.findKey, run_underlying hk, h1, Option.map_some, Nat.zero_add, Sem.run_pure, hget, hke, Option.getD_some, hst, hmod]
    simp [setObj, Sem.run, World.putObj, hp _ _ hin.out]

theorem run_mapNew {w : World} {t kt et : TypeId} {k k' : IntKind} {j : Int} {m c : Nat} {es : List MapEntry} {u : Value} (ht : P.underlying t = some (.map kt et)) (hk : P.underlying kt = some (.int k')) (hp : Pn w L) (hin : InC L m (.map es.toArray c)) (hes : keysI k es)
    (hf : findI es j = none) : (Instr.mapUpdate t (.map (some m)) (.int k j) u).run P w = .ok () (w.putObj m (.map (es ++ [MapEntry.mk (.int k j) u c]).toArray (c + 1))) := by
  rw [findI_idx hes] at hf
  have hi : idxI j es = none := by cases hi : idxI j es with
    | none => rfl
    | some p => rw [hi] at hf; cases hf
  have hob := run_getMap (P := P) hp hin
  have hck : ∀ b, (Instr.checkKey b 10000 kt (.int k j)).run P w = .ok () w := fun b => run_checkInt 9999 b hk
  have h1 := findNow_idx (k := k) (k' := k') (j := j) es 0 hes
  rw [hi] at h1
  simp only [Instr.mapUpdate, Sem.run_bind, run_underlying ht, Result.andThen_ok, hob, hck, Instr.findKey, run_underlying hk, h1, Option.map_none, Sem.run_pure]
  simp [setObj, Sem.run, World.putObj, hp _ _ hin.out]

/-- The map behind a value that is put in. -/
def putE (q : IntKind) (j : Int) (u : Value) (es : List MapEntry) (c : Nat) : List MapEntry × Nat :=
  if (findI es j).isSome then (setE q j u es, c) else (es ++ [⟨.int q j, u, c⟩], c + 1)
theorem KV.none_of {q : IntKind} {es : List MapEntry} {c : Nat} {j : Int} (h : KV q es c) (hf : findI es j = none) : ∀ e ∈ es, kI e.key ≠ j := by
  rw [findI_idx h.keys] at hf
  refine idxI_none ?_
  cases hi : idxI j es with
  | none => rfl
  | some p => rw [hi] at hf; cases hf
theorem KV.some_of {q : IntKind} {es : List MapEntry} {c : Nat} {j : Int} {v : Value} (h : KV q es c) (hf : findI es j = some v) : ∃ A e B, es = A ++ e :: B ∧ e.key = .int q j ∧ e.val = v := by
  rw [findI_idx h.keys] at hf
  cases hi : idxI j es with
  | none => rw [hi] at hf; cases hf
  | some p =>
    obtain ⟨i, v'⟩ := p
    obtain ⟨A, e, B, rfl, hA, he, hv, _⟩ := idxI_some hi
    rw [hi] at hf
    cases hf
    obtain ⟨ke, hke⟩ := h.keys e (by simp)
    have hkj : ke = j := by rw [hke] at he; exact he
    exact ⟨A, e, B, rfl, by rw [hke, hkj], hv⟩
theorem KV.find_of {q : IntKind} {es : List MapEntry} {c : Nat} (h : KV q es c) {e : MapEntry} (he : e ∈ es) : findI es (kI e.key) = some e.val := by
  cases hf : findI es (kI e.key) with
  | none => exact absurd rfl (h.none_of hf e he)
  | some v =>
    obtain ⟨A, e', B, rfl, h1, h2⟩ := h.some_of hf
    have hn := h.apart
    have hk : kI e'.key = kI e.key := by rw [h1]; rfl
    rw [← h2]
    rcases List.mem_append.1 he with ha | hb
    · rw [List.map_append, List.nodup_append] at hn
      exact absurd hk.symm (hn.2.2 _ (List.mem_map.2 ⟨e, ha, rfl⟩) _ (List.mem_map.2 ⟨e', List.mem_cons_self .., rfl⟩))
    · rcases List.mem_cons.1 hb with rfl | hb
      · rfl
      · rw [List.map_append, List.nodup_append, List.map_cons, List.nodup_cons] at hn
        exact absurd (List.mem_map.2 ⟨e, hb, hk.symm⟩) hn.2.1.1
theorem KV.put {q : IntKind} {es : List MapEntry} {c : Nat} {j : Int} {u : Value} (h : KV q es c) : KV q (putE q j u es c).1 (putE q j u es c).2 := by
  unfold putE
  cases hf : findI es j with
  | none => exact h.add (h.none_of hf)
  | some v => exact h.set

theorem exec_mapPut {w : World} {o : Oper} {t kt et : TypeId} {x y z : Operand} {k k' : IntKind} {j : Int} {m c : Nat} {es : List MapEntry} {u : Value} (ho : o.op = .mapUpdate t x y z ∨ o.op = .insert t x y z) (ht : P.underlying t = some (.map kt et)) (hk : P.underlying kt = some (.int k'))
    (hx : EvO ρ x (.map (some m))) (hy : EvO ρ y (.int k j)) (hz : EvO ρ z u) (hp : Pn w L) (hin : InC L m (.map es.toArray c)) (hes : KV k es c) :
    (execOp (ev ρ) o).run P w = .ok .skip (w.putObj m (.map (putE k j u es c).1.toArray (putE k j u es c).2)) := by
  have e1 : (Instr.mapUpdate t (.map (some m)) (.int k j) u).run P w = .ok () (w.putObj m (.map (putE k j u es c).1.toArray (putE k j u es c).2)) := by
    unfold putE
    cases hf : findI es j with
    | none => exact run_mapNew ht hk hp hin hes.keys hf
    | some v => exact run_mapSet ht hk hp hin hes hf
  rcases ho with ho | ho <;>
  · unfold execOp
    simp only [ho, hx.out, hy.out, hz.out, Sem.run_bind, e1, Result.andThen_ok, Sem.run_pure]

theorem opuMapPut {t kt et : TypeId} {x y z : Operand} {k k' : IntKind} {j : Int} {m c : Nat} {es : List MapEntry} {L' : Chunk} {u : Value} {op : Op} (ho : op = .mapUpdate t x y z ∨ op = .insert t x y z) (ht : Und P t (.map kt et)) (hk : Und P kt (.int k')) (hx : EvO ρ x (.map (some m))) (hy : EvO ρ y (.int k j)) (hz : EvO ρ z u) (hin : InC L m (.map es.toArray c)) (hes : KV k es c)
    (hu : UpdC L m (.map (putE k j u es c).1.toArray (putE k j u es c).2) L') : OpU P ρ L op ty L' :=
  ⟨fun c h => (by subst h; rcases ho with ho | ho <;> cases ho), fun w0 w o hoo hty hst =>
    ⟨_, exec_mapPut (o := o) (by rw [hoo]; exact ho) ht.out hk.out hx hy hz hst.pn hin hes, hst.put hin hu⟩⟩

theorem OW.mapPut {t kt et : TypeId} {x y z : Operand} {k k' : IntKind} {j : Int} {m c : Nat} {es : List MapEntry} {L' : Chunk} {u : Value} [ht : Und P t (.map kt et)] [hk : Und P kt (.int k')] [hx : EvO ρ x (.map (some m))] [hy : EvO ρ y (.int k j)] [hz : EvO ρ z u] [hin : InC L m (.map es.toArray c)] (hes : KV k es c)
    [hu : UpdC L m (.map (putE k j u es c).1.toArray (putE k j u es c).2) L'] (next : OW P w0 rd n ops K l ρ ds L') : OW P w0 rd n ops K (⟨none, .mapUpdate t x y z, ty, pos, after, none⟩ :: l) ρ ds L :=
  @OW.u _ _ _ _ _ _ _ _ _ _ _ _ _ _ _ (opuMapPut (.inl rfl) ht hk hx hy hz hin hes hu) next
/-- A key is struck. -/
theorem ef_delete {t kt : TypeId} {et t2 : TypeId} {x y : Operand} {k k' : IntKind} {j : Int} {m c : Nat} {es : List MapEntry} {L' : Chunk} (ht : Und P t (.map kt et)) (hk : Und P kt (.int k')) (hx : EvO ρ x (.map (some m))) (hy : EvO ρ y (.int k j)) (hin : InC L m (.map es.toArray c)) (hes : KV k es c)
    (hu : UpdC L m (.map (delE j es).toArray c) L') : Ef P ρ L (.call { callee := .builtin .delete, args := #[x, y], argTypes := #[t, t2] }) ty (fun v L'' => v = .tuple #[] ∧ L'' = L') noPanic := by
  refine ⟨fun c h => (by cases h), fun w0 w rd a next Q o ho hty ha hst hn _ => ?_⟩
  have hob := run_getMap (P := P) hst.pn hin
  have hck : ∀ b, (Instr.checkKey b 10000 kt (.int k j)).run P w = .ok () w := fun b => run_checkInt 9999 b hk.out
  have h1 := findNow_idx (k := k) (k' := k') (j := j) es 0 hes.keys
  have hr : (execOp (ev ρ) o).run P w = .ok (.value (.tuple #[])) (w.putObj m (.map (delE j es).toArray c)) := by
    unfold execOp
    simp only [ho, resolve, invoke, builtin, Sem.run_bind, Sem.run_pure, Result.andThen_ok, List.map_toArray, List.map_cons, List.map_nil, hx.out, hy.out]
    cases hi : idxI j es with
    | none =>
      rw [hi] at h1
      have hd : delE j es = es := List.filter_eq_self.2 fun e he => by simpa using idxI_none hi e he
      simp [Builtin.delete_, run_underlying ht.out, hob, hck, Instr.findKey, run_underlying hk.out, h1, hd, setObj, Sem.run, World.putObj, hst.pn _ _ hin.out]
    | some p =>
      obtain ⟨i, v⟩ := p
      obtain ⟨A, e, B, rfl, hA, he, hv, _⟩ := idxI_some hi
      rw [hi] at h1
      subst hA
      have he2 : (A ++ e :: B).eraseIdx A.length = A ++ B := by
        rw [List.eraseIdx_append_of_length_le (Nat.le_refl _)]; simp
      rw [delE_at hes.apart he]
      simp [Builtin.delete_, run_underlying ht.out, hob, hck, Instr.findKey, run_underlying hk.out, h1, he2, setObj, Sem.run, World.putObj, hst.pn _ _ hin.out]
  rw [hr]
  exact hn _ _ L' (hst.put hin hu) ⟨rfl, rfl⟩
theorem OW.mapDel {dst : Option Tmp} {t kt : TypeId} {et t2 : TypeId} {x y : Operand} {k k' : IntKind} {j : Int} {m c : Nat} {es : List MapEntry} {L' : Chunk} [ht : Und P t (.map kt et)] [hk : Und P kt (.int k')] [hx : EvO ρ x (.map (some m))] [hy : EvO ρ y (.int k j)] [hin : InC L m (.map es.toArray c)] (hes : KV k es c)
    [hu : UpdC L m (.map (delE j es).toArray c) L'] (next : OW P w0 rd n ops K l (updO ρ dst (.tuple #[])) ds L') : OW P w0 rd n ops K (⟨dst, .call { callee := .builtin .delete, args := #[x, y], argTypes := #[t, t2] }, ty, pos, after, none⟩ :: l) ρ ds L :=
  OW.eff (ef_delete ht hk hx hy hin hes hu) (fun v L'' ⟨h1, h2⟩ => by subst h1 h2; exact next) (fun _ _ h => h.elim)

theorem RW.callV1 {x : Operand} {args : List Operand} {at_ : Array TypeId} {fv : Value} {vs : List Value} {Φ : Value → Chunk → Prop} {g : Option (Nat × Bool)} [hg : GdT ops ρ g] [hx : EvO ρ x fv] [hv : EvL ρ args vs] (h : VP P fv vs L Φ noPanic)
    (next : ∀ v L', Φ v L' → ∃ R', (∀ p ∈ R, p ∈ R') ∧ (∀ p ∈ R', p ∈ L') ∧ RW P w0 rd n ops K l R' (upd ρ d v) ds L') :
    RW P w0 rd n ops K (⟨some d, .call { callee := .value x, args := args.toArray, argTypes := at_ }, ty, pos, after, g⟩ :: l) R ρ ds L :=
  RW.eff hg.out (by rfl) (Ef.callV hx.out hv.out h) next (fun _ _ h => h.elim)
instance op1Max {x y : Operand} {ts : Array TypeId} {k : IntKind} {a b : Int} [hx : EvO ρ x (.int k a)] [hy : EvO ρ y (.int k b)] : Op1 P ρ L (.call { callee := .builtin .max, args := #[x, y], argTypes := ts }) ty (.int k (max a b)) :=
  ⟨yl_of_run (fun c h => (by cases h)) fun w o ho _ _ => by
    have e : (if b > a then b else a) = max a b := by rw [Int.max_def]; split <;> split <;> omega
    unfold execOp
    simp [ho, resolve, invoke, builtin, hx.out, hy.out, Builtin.max_, Builtin.max2, e]⟩
/-- A part of an array's value. -/
theorem yl_indexVal {t e : TypeId} {x i : Operand} {m j' : Nat} {kk : IntKind} {j : Int} {l : List Value} {v : Value} (ht : Und P t (.array m e)) (hz : Siz P e 1) (ha : Agg P e false) (hx : EvO ρ x (.agg l.toArray)) (hi : EvO ρ i (.int kk j)) (hj : ToN j j') (hn : NthL l j' v) (h : 0 ≤ j ∧ j < m) :
    Yl P ρ L (.index t x i) ty v :=
  yl_of_run (fun c h => (by cases h)) fun w o ho _ _ => by
    have hjn := hj.out
    unfold execOp
    simp [ho, hx.out, hi.out, Instr.index, asIntOf, run_underlying ht.out, h.1, h.2, hz.out, hjn, run_partInt]
theorem OW.ixV {t e : TypeId} {x i : Operand} {m j' : Nat} {kk : IntKind} {j : Int} {l0 : List Value} {v : Value} [ht : Und P t (.array m e)] [hz : Siz P e 1] [ha : Agg P e false] [hx : EvO ρ x (.agg l0.toArray)] [hi : EvO ρ i (.int kk j)] [hj : ToN j j'] [hn : NthL l0 j' v] (h : 0 ≤ j ∧ j < m)
    (next : OW P w0 rd n ops K l (upd ρ d v) ds L) : OW P w0 rd n ops K (⟨some d, .index t x i, ty, pos, after, none⟩ :: l) ρ ds L := OW.y (yl_indexVal ht hz ha hx hi hj hn h) next
theorem RW.ixV {t e : TypeId} {x i : Operand} {m j' : Nat} {kk : IntKind} {j : Int} {l0 : List Value} {v : Value} {g : Option (Nat × Bool)} [hg : GdT ops ρ g] [ht : Und P t (.array m e)] [hz : Siz P e 1] [ha : Agg P e false] [hx : EvO ρ x (.agg l0.toArray)] [hi : EvO ρ i (.int kk j)] [hj : ToN j j'] [hn : NthL l0 j' v] (h : 0 ≤ j ∧ j < m)
    (next : RW P w0 rd n ops K l R (upd ρ d v) ds L) : RW P w0 rd n ops K (⟨some d, .index t x i, ty, pos, after, g⟩ :: l) R ρ ds L := RW.p' hg.out rfl (yl_indexVal ht hz ha hx hi hj hn h) next
/-- How many entries there are. -/
theorem yl_mapLen {t kt et : TypeId} {x : Operand} {m c : Nat} {es : List MapEntry} (ht : Und P t (.map kt et)) (hx : EvO ρ x (.map (some m))) (hin : InC L m (.map es.toArray c)) :
    Yl P ρ L (.call { callee := .builtin .len, args := #[x], argTypes := #[t] }) ty (.int .i64 es.length) :=
  yl_of_run (fun c h => (by cases h)) fun w o ho _ hp => by
    have hob := run_getMap (P := P) hp hin
    unfold execOp
    simp [ho, resolve, invoke, builtin, hx.out, Builtin.len_, run_underlying ht.out, Builtin.lenOf, hob, goInt]
end
end Go.Pw

namespace Go.Pw
inductive OT where
 | leaf (is : List Nat)
 | fork (is : List Nat) (i j : Nat) (ti tj : OT)
def OT.len : OT → Nat
 | .leaf is => is.length
 | .fork is _ _ ti tj => is.length + 1 + max ti.len tj.len
def OT.is : OT → List Nat
 | .leaf is => is
 | .fork is _ _ _ _ => is
def effAt (ops : Array Oper) (i : Nat) : Bool := match ops[i]? with
 | some o => isEff o
 | none => false
def chkT (ops : Array Oper) : OT → Array Bool → Bool
 | .leaf is, listed => chk ops is listed
 | .fork is i j ti tj, listed => chkP ops is listed && (Region.ready .any ops (tick is listed) == [i, j]) && effAt ops i && effAt ops j &&
  chkT ops ti ((tick is listed).setIfInBounds i true) && chkT ops tj ((tick is listed).setIfInBounds j true)
def regionOkT (n : Nat) (ops : Array Oper) (T : OT) : Bool :=
 noOdd ops && ops.all (dstOk n) && decide (T.len ≤ ops.size) && chkT ops T (Array.replicate ops.size false)
def hd : Option Nat → List Nat → List Nat
 | none, is => is
 | some i, is => i :: is
section
variable (P : Program) (w0 : World) (rd : Option Nat) (n : Nat) (l : List Oper) (K : Post)
def TRW : OT → Option Nat → Chunk → Env → List Deferred → Chunk → Prop
 | .leaf is, h, R, ρ, ds, L => RW P w0 rd n l.toArray K (pickOps l (hd h is)) R ρ ds L
 | .fork is i j ti tj, h, R, ρ, ds, L => RW P w0 rd n l.toArray (thenK (fun ρ ds L => TRW ti (some i) L ρ ds L ∧ TRW tj (some j) L ρ ds L) K) (pickOps l (hd h is)) R ρ ds L
def postT : OT → Post
 | .leaf _ => K
 | .fork _ i j ti tj => thenK (fun ρ ds L => TRW P w0 rd n l K ti (some i) L ρ ds L ∧ TRW P w0 rd n l K tj (some j) L ρ ds L) K
end
section
variable {P : Program} {w0 : World} {rd : Option Nat} {n : Nat} {l : List Oper} {K : Post} {ρ : Env} {ds : List Deferred} {L R : Chunk}
theorem TRW.rw {T : OT} {h : Option Nat} (H : TRW P w0 rd n l K T h R ρ ds L) : RW P w0 rd n l.toArray (postT P w0 rd n l K T) (pickOps l (hd h T.is)) R ρ ds L := by
 cases T <;> exact H
theorem postT.quit (T : OT) : (∀ e a w, Kx w0 n (postT P w0 rd n l K T) (.panic e) a w → Kx w0 n K (.panic e) a w) := by
 cases T <;> exact fun e a w h => h
theorem postT.out (T : OT) : LetsOut (Kx w0 n (postT P w0 rd n l K T)) → LetsOut (Kx w0 n K) := by
 cases T <;> exact fun ⟨a, w, h⟩ => ⟨a, w, h⟩
theorem anyT (hst : Steady K) (h1 : noOdd l.toArray = true) (h2 : l.toArray.all (dstOk n) = true) : ∀ (T : OT) (fuel : Nat) (listed : Array Bool) (R : Chunk) (a : Act) (w : World), T.len ≤ fuel → chkT l.toArray T listed = true → Pn w R →
  RDl (fence rd) P l.toArray (Kx w0 n K) (FinR w0 n (postT P w0 rd n l K T)) (pickOps l T.is) R a w → AnyR (fence rd) P l.toArray (Kx w0 n K) fuel listed R a w := by
 intro T
 induction T with
 | leaf is =>
  intro fuel listed R a w hl hc hp h
  have hc : chk l.toArray is listed = true := hc
  exact RDc.any (Fin := FinR w0 n K) (fence_fn rd) h1 (Kx.steady hst) (fun _ _ _ h => FinR.kx h) is fuel listed R a w hl hc hp (RDl.rdc is _ R a w (by rw [chk_eq, Bool.and_eq_true] at hc; exact hc.1) h)
 | fork is i j ti tj ihi ihj =>
  intro fuel listed R a w hl hc hp h
  simp only [chkT, Bool.and_eq_true, beq_iff_eq] at hc
  obtain ⟨⟨⟨⟨⟨c1, c2⟩, c3⟩, c4⟩, c5⟩, c6⟩ := hc
  have hl' : is.length + 1 + max ti.len tj.len ≤ fuel := hl
  have hmem : ∀ {is : List Nat} (o : Oper), o ∈ pickOps l is → dstOk n o = true := fun o ho => Array.all_eq_true_iff_forall_mem.1 h2 o (by simpa using pickOps_mem ho)
  have branch : ∀ (k : Nat) (T : OT) (fuel : Nat), effAt l.toArray k = true → T.len ≤ fuel → chkT l.toArray T ((tick is listed).setIfInBounds k true) = true →
    (∀ (fuel : Nat) (listed : Array Bool) (R : Chunk) (a : Act) (w : World), T.len ≤ fuel → chkT l.toArray T listed = true → Pn w R → RDl (fence rd) P l.toArray (Kx w0 n K) (FinR w0 n (postT P w0 rd n l K T)) (pickOps l T.is) R a w → AnyR (fence rd) P l.toArray (Kx w0 n K) fuel listed R a w) →
    ∀ (R : Chunk) (ρ : Env) (ds : List Deferred) (L : Chunk) (a : Act) (w : World), (∀ p ∈ R, p ∈ L) → Rep n a ρ ds → St w0 w L → TRW P w0 rd n l K T (some k) L ρ ds L →
    wpOpIn (fence rd) 0 P l.toArray (Kx w0 n K) k (fun a' w' => ∃ R', ((∀ p ∈ R, p ∈ R') ∨ depAll l.toArray (tick is listed) k = true) ∧ Pn w' R' ∧ AnyR (fence rd) P l.toArray (Kx w0 n K) fuel ((tick is listed).setIfInBounds k true) R' a' w') a w := by
   intro k T fuel hek hlen hck ih R ρ ds L a w hRL hr hs hw
   obtain ⟨ok, hk, hek⟩ : ∃ ok, l.toArray[k]? = some ok ∧ isEff ok = true := by
    unfold effAt at hek
    cases h9 : l.toArray[k]? with
    | none => rw [h9] at hek; cases hek
    | some ok => rw [h9] at hek; exact ⟨ok, rfl, hek⟩
   have hn : nthOp l k = some ok := by rw [nthOp_eq]; simpa using hk
   have h11 := TRW.rw hw hmem (fun _ h => h) a w hr hs
   have h12 := RDl.quit (Q' := Kx w0 n K) (postT.quit T) (postT.out T) _ L a w (fun o ho => by
    obtain ⟨q, hq⟩ := List.mem_iff_getElem?.1 (pickOps_mem ho)
    exact ⟨q, by simpa using hq⟩) h11
   simp only [hd, pickOps, hn] at h12
   rcases h12 with ⟨he, _⟩ | ⟨_, h12⟩
   ·rw [hek] at he; cases he
   ·rw [opIn_eq hk] at h12
    exact wpOpIn_mono (fun a' w' ⟨R', x, y, z⟩ => ⟨R', .inl fun p hp => x p (hRL p hp), y, ih fuel _ R' a' w' hlen hck y z⟩) h12
  refine RDc.anyP (more := 1 + max ti.len tj.len) (last := tick is listed) (Fin := FinR w0 n (postT P w0 rd n l K (.fork is i j ti tj))) (fence_fn rd) h1 (Kx.steady hst) (fun R a w hp hf fuel hfu => ?_) is fuel listed R a w (by omega) rfl c1 hp (RDl.rdc is _ R a w c1 h)
  obtain ⟨ρ, ds, L, hr, hs, hRL, hw⟩ := hf
  have hw : TRW P w0 rd n l K ti (some i) L ρ ds L ∧ TRW P w0 rd n l K tj (some j) L ρ ds L := hw
  obtain ⟨fuel, rfl⟩ : ∃ k, fuel = k + 1 := ⟨fuel - 1, by omega⟩
  refine ⟨fun h0 => (by rw [c2] at h0; cases h0), fun k hk => ?_⟩
  rw [c2] at hk
  rcases List.mem_cons.1 hk with rfl | hk
  ·exact branch _ ti fuel c3 (by omega) c5 ihi R ρ ds L a w hRL hr hs hw.1
  ·obtain rfl : k = j := by simpa using hk
   exact branch _ tj fuel c4 (by omega) c6 ihj R ρ ds L a w hRL hr hs hw.2
theorem CW.drawsTree {id : Nat} (T : OT) (R : Chunk) (hm : P.follows .mixedOrders = true) (hok : regionOkT n l.toArray T = true) [hK : StdC K] [hR : MemC R L] (h : TRW P w0 rd n l K T none R ρ ds L) : CW P w0 rd n (.region id l.toArray true) K ρ ds L := by
 intro a w hr hs
 simp only [regionOkT, Bool.and_eq_true, decide_eq_true_eq] at hok
 obtain ⟨⟨⟨h1, h2⟩, h3⟩, h4⟩ := hok
 have hmem : ∀ {is : List Nat} (o : Oper), o ∈ pickOps l is → dstOk n o = true := fun o ho => Array.all_eq_true_iff_forall_mem.1 h2 o (by simpa using pickOps_mem ho)
 refine wpIn_region_any hm (AnyR.any _ _ R _ _ ?_)
 refine anyT hK.out h1 h2 T _ _ R a _ h3 h4 (hs.pn.sub hR.out) ?_
 exact RDl.quit (Q' := Kx w0 n K) (postT.quit T) (postT.out T) _ R a _ (fun o ho => by
  obtain ⟨q, hq⟩ := List.mem_iff_getElem?.1 (pickOps_mem ho)
  exact ⟨q, by simpa using hq⟩) (TRW.rw h hmem hR.out a _ hr hs.drew)
theorem CW.drawsTreeA {id : Nat} (T : OT) (hm : P.follows .mixedOrders = true) (hok : regionOkT n l.toArray T = true) [hK : StdC K] (h : TRW P w0 rd n l K T none L ρ ds L) : CW P w0 rd n (.region id l.toArray true) K ρ ds L :=
 have : MemC L L := ⟨fun _ h => h⟩
 CW.drawsTree T L hm hok h
theorem TRW.fork {is : List Nat} {i j : Nat} {ti tj : OT} {h : Option Nat} {l' : List Oper} [hp : Pick l (hd h is) l'] (H : RW P w0 rd n l.toArray (thenK (fun ρ ds L => TRW P w0 rd n l K ti (some i) L ρ ds L ∧ TRW P w0 rd n l K tj (some j) L ρ ds L) K) l' R ρ ds L) : TRW P w0 rd n l K (.fork is i j ti tj) h R ρ ds L := by
 have := hp.out; subst this; exact H
theorem TRW.leaf {is : List Nat} {h : Option Nat} {l' : List Oper} [hp : Pick l (hd h is) l'] (H : RW P w0 rd n l.toArray K l' R ρ ds L) : TRW P w0 rd n l K (.leaf is) h R ρ ds L := by
 have := hp.out; subst this; exact H
theorem TRW.both {ti tj : OT} {hi hj : Option Nat} {R R' : Chunk} (h1 : TRW P w0 rd n l K ti hi R ρ ds L) (h2 : TRW P w0 rd n l K tj hj R' ρ ds L) : TRW P w0 rd n l K ti hi R ρ ds L ∧ TRW P w0 rd n l K tj hj R' ρ ds L := ⟨h1, h2⟩
end
inductive AT where
 | done
 | one (i : Nat) (t : AT)
 | two (i j : Nat) (ti tj : AT)
def AT.len : AT → Nat
 | .done => 0
 | .one _ t => t.len + 1
 | .two _ _ ti tj => max ti.len tj.len + 1
def chkA (ops : Array Oper) : AT → Array Bool → Bool
 | .done, listed => (Region.ready .any ops listed).isEmpty
 | .one i t, listed => (Region.ready .any ops listed == [i]) && (ops[i]?).isSome && chkA ops t (listed.setIfInBounds i true)
 | .two i j ti tj, listed => (Region.ready .any ops listed == [i, j]) && (ops[i]?).isSome && (ops[j]?).isSome && chkA ops ti (listed.setIfInBounds i true) && chkA ops tj (listed.setIfInBounds j true)
def regionOkA (n : Nat) (ops : Array Oper) (T : AT) : Bool := ops.all (dstOk n) && decide (T.len ≤ ops.size) && chkA ops T (Array.replicate ops.size false)
section
variable (P : Program) (w0 : World) (rd : Option Nat) (n : Nat) (l : List Oper) (K : Post)
def ATW : AT → Env → List Deferred → Chunk → Prop
 | .done, ρ, ds, L => K .normal ρ ds L
 | .one i t, ρ, ds, L => OW P w0 rd n l.toArray (thenK (fun ρ ds L => ATW t ρ ds L) K) (pickOps l [i]) ρ ds L
 | .two i j ti tj, ρ, ds, L => OW P w0 rd n l.toArray (thenK (fun ρ ds L => ATW ti ρ ds L) K) (pickOps l [i]) ρ ds L ∧ OW P w0 rd n l.toArray (thenK (fun ρ ds L => ATW tj ρ ds L) K) (pickOps l [j]) ρ ds L
end
section
variable {P : Program} {w0 : World} {rd : Option Nat} {n : Nat} {l : List Oper} {K : Post} {ρ : Env} {ds : List Deferred} {L R : Chunk}
theorem anyA (h2 : l.toArray.all (dstOk n) = true) : ∀ (T : AT) (fuel : Nat) (listed : Array Bool) (ρ : Env) (ds : List Deferred) (L : Chunk) (a : Act) (w : World), T.len ≤ fuel → chkA l.toArray T listed = true → Rep n a ρ ds → St w0 w L →
  ATW P w0 rd n l K T ρ ds L → wpAnyIn (fence rd) 0 P .any l.toArray (Kx w0 n K) fuel listed a w := by
 have hmem : ∀ {is : List Nat} (o : Oper), o ∈ pickOps l is → dstOk n o = true := fun o ho => Array.all_eq_true_iff_forall_mem.1 h2 o (by simpa using pickOps_mem ho)
 have step : ∀ (i : Nat) (t : AT) (fuel : Nat) (listed : Array Bool), (l.toArray[i]?).isSome = true →
   (∀ ρ ds L a w, Rep n a ρ ds → St w0 w L → ATW P w0 rd n l K t ρ ds L → wpAnyIn (fence rd) 0 P .any l.toArray (Kx w0 n K) fuel (listed.setIfInBounds i true) a w) →
   ∀ ρ ds L a w, Rep n a ρ ds → St w0 w L → OW P w0 rd n l.toArray (thenK (fun ρ ds L => ATW P w0 rd n l K t ρ ds L) K) (pickOps l [i]) ρ ds L →
   wpOpIn (fence rd) 0 P l.toArray (Kx w0 n K) i (fun a' w' => wpAnyIn (fence rd) 0 P .any l.toArray (Kx w0 n K) fuel (listed.setIfInBounds i true) a' w') a w := by
  intro i t fuel listed hi ih ρ ds L a w hr hs hw
  obtain ⟨o, ho⟩ := Option.isSome_iff_exists.1 hi
  have hn : nthOp l i = some o := by rw [nthOp_eq]; simpa using ho
  have h9 := hw (List.all_eq_true.2 fun o ho => hmem o ho) a w hr hs
  simp only [pickOps, hn] at h9
  have h10 : opIn (fence rd) P l.toArray (Kx w0 n (thenK (fun ρ ds L => ATW P w0 rd n l K t ρ ds L) K)) o (fun a' w' => Kx w0 n (thenK (fun ρ ds L => ATW P w0 rd n l K t ρ ds L) K) .normal a' w') a w := h9
  have h11 := opIn_quit (Q' := Kx w0 n K) (fun e a w h => h) (fun ⟨a, w, h⟩ => ⟨a, w, h⟩) h10
  rw [opIn_eq ho] at h11
  exact wpOpIn_mono (fun a' w' ⟨ρ', ds', L', x, y, z⟩ => ih ρ' ds' L' a' w' x y z) h11
 intro T
 induction T with
 | done =>
  intro fuel listed ρ ds L a w _ hc hr hs h
  have hc : (Region.ready .any l.toArray listed).isEmpty = true := hc
  have he : Region.ready .any l.toArray listed = [] := by simpa using hc
  cases fuel with
  | zero => exact ⟨he, ρ, ds, L, hr, hs, h⟩
  | succ fuel => exact ⟨fun _ => ⟨ρ, ds, L, hr, hs, h⟩, fun i hi => by rw [he] at hi; cases hi⟩
 | one i t ih =>
  intro fuel listed ρ ds L a w hl hc hr hs h
  simp only [chkA, Bool.and_eq_true, beq_iff_eq] at hc
  obtain ⟨⟨c1, c2⟩, c3⟩ := hc
  have hl : t.len + 1 ≤ fuel := hl
  obtain ⟨fuel, rfl⟩ : ∃ k, fuel = k + 1 := ⟨fuel - 1, by omega⟩
  refine ⟨fun h0 => (by rw [c1] at h0; cases h0), fun k hk => ?_⟩
  rw [c1] at hk
  obtain rfl : k = i := by simpa using hk
  exact step k t fuel listed c2 (fun ρ ds L a w hr hs h => ih fuel _ ρ ds L a w (by omega) c3 hr hs h) ρ ds L a w hr hs h
 | two i j ti tj ihi ihj =>
  intro fuel listed ρ ds L a w hl hc hr hs h
  simp only [chkA, Bool.and_eq_true, beq_iff_eq] at hc
  obtain ⟨⟨⟨⟨c1, c2⟩, c3⟩, c4⟩, c5⟩ := hc
  have hl : max ti.len tj.len + 1 ≤ fuel := hl
  obtain ⟨fuel, rfl⟩ : ∃ k, fuel = k + 1 := ⟨fuel - 1, by omega⟩
  refine ⟨fun h0 => (by rw [c1] at h0; cases h0), fun k hk => ?_⟩
  rw [c1] at hk
  rcases List.mem_cons.1 hk with rfl | hk
  ·exact step k ti fuel listed c2 (fun ρ ds L a w hr hs h => ihi fuel _ ρ ds L a w (by omega) c4 hr hs h) ρ ds L a w hr hs h.1
  ·obtain rfl : k = j := by simpa using hk
   exact step k tj fuel listed c3 (fun ρ ds L a w hr hs h => ihj fuel _ ρ ds L a w (by omega) c5 hr hs h) ρ ds L a w hr hs h.2
theorem CW.drawsA {id : Nat} (T : AT) (hm : P.follows .mixedOrders = true) (hok : regionOkA n l.toArray T = true) (h : ATW P w0 rd n l K T ρ ds L) : CW P w0 rd n (.region id l.toArray true) K ρ ds L := by
 intro a w hr hs
 simp only [regionOkA, Bool.and_eq_true, decide_eq_true_eq] at hok
 obtain ⟨⟨h1, h2⟩, h3⟩ := hok
 exact wpIn_region_any hm (anyA h1 T _ _ ρ ds L a _ h2 h3 hr hs.drew h)
theorem ATW.d (h : K .normal ρ ds L) : ATW P w0 rd n l K .done ρ ds L := h
theorem ATW.o {i : Nat} {t : AT} {l' : List Oper} [hp : Pick l [i] l'] (h : OW P w0 rd n l.toArray (thenK (fun ρ ds L => ATW P w0 rd n l K t ρ ds L) K) l' ρ ds L) : ATW P w0 rd n l K (.one i t) ρ ds L := by
 have := hp.out; subst this; exact h
theorem ATW.t {i j : Nat} {ti tj : AT} {li lj : List Oper} [hp : Pick l [i] li] [hq : Pick l [j] lj] (h : OW P w0 rd n l.toArray (thenK (fun ρ ds L => ATW P w0 rd n l K ti ρ ds L) K) li ρ ds L) (h' : OW P w0 rd n l.toArray (thenK (fun ρ ds L => ATW P w0 rd n l K tj ρ ds L) K) lj ρ ds L) :
  ATW P w0 rd n l K (.two i j ti tj) ρ ds L := by
 have := hp.out; subst this
 have := hq.out; subst this
 exact ⟨h, h'⟩
end
instance pickHdN {l l' : List Oper} {is : List Nat} [h : Pick l is l'] : Pick l (hd none is) l' := h
instance pickHdS {l l' : List Oper} {is : List Nat} {i : Nat} [h : Pick l (i :: is) l'] : Pick l (hd (some i) is) l' := h
end Go.Pw

namespace Go.Pw
section
variable {P : Program} {F : Fence} {ops : Array Oper} {Q : Exit → Act → World → Prop}
def depB (ops : Array Oper) (base listed : Array Bool) (j : Nat) : Bool :=
 match ops[j]? with
 | some o => (List.range ops.size).all fun i => base.getD i false || (!(listed.getD i false) || o.after.any (fun e => Region.binds .any e && e.on == i))
 | none => false
def AnyB (F : Fence) (P : Program) (ops : Array Oper) (Q : Exit → Act → World → Prop) (base : Array Bool) : Nat → Array Bool → Chunk → Act → World → Prop
 | 0, listed, _, a, w => Region.ready .any ops listed = [] ∧ Q .normal a w
 | fuel + 1, listed, R, a, w =>
  (Region.ready .any ops listed = [] → Q .normal a w) ∧
  ∀ i ∈ Region.ready .any ops listed, wpOpIn F 0 P ops Q i (fun a' w' => ∃ R', ((∀ p ∈ R, p ∈ R') ∨ depB ops base listed i = true) ∧ Pn w' R' ∧ AnyB F P ops Q base fuel (listed.setIfInBounds i true) R' a' w') a w
theorem AnyB.anyR {base : Array Bool} : ∀ (fuel : Nat) (listed : Array Bool) (R : Chunk) (a : Act) (w : World), AnyB F P ops Q base fuel listed R a w → AnyR F P ops Q fuel listed [] a w
 | 0, _, _, _, _, h => h
 | fuel + 1, _, _, _, _, h => ⟨h.1, fun i hi => wpOpIn_mono (fun a' w' ⟨_, _, _, h'⟩ => ⟨[], .inl (fun _ h => (by cases h)), fun _ _ h => (by cases h), AnyB.anyR fuel _ _ a' w' h'⟩) (h.2 i hi)⟩
theorem AnyB.done {base listed : Array Bool} {R : Chunk} {a : Act} {w : World} (hr : Region.ready .any ops listed = []) (h : Q .normal a w) : ∀ fuel, AnyB F P ops Q base fuel listed R a w
 | 0 => ⟨hr, h⟩
 | _ + 1 => ⟨fun _ => h, by rw [hr]; simp⟩
theorem AnyB.first {base : Array Bool} {i : Nat} {oi : Oper} {v : Value} (hib : base.getD i false = false) (hF : ∀ f, F.fn f) (hi : ops[i]? = some oi) (hsel : ∀ (j : Nat) (o : Oper) cs b, ops[j]? = some o → o.op ≠ .select cs b)
  (hdef : ∀ (j : Nat) (o : Oper) c, ops[j]? = some o → o.op ≠ .defer c)
  (hQ : ∀ c a d v w, Q (.panic c) (a.put d v) w → Q (.panic c) a w) :
  ∀ (fuel : Nat) (listed : Array Bool) (R : Chunk) (a : Act) (w : World),
   (∀ j oj, ops[j]? = some oj → j ≠ i → listed.getD j true = false → (∀ e ∈ oj.after, Region.binds .any e = true → e.on ≠ i) → oi.apart ops oj = true) →
   i ∈ Region.ready .any ops listed → YI P ops R oi v a → Pn w R →
   AnyB F P ops Q base fuel (listed.setIfInBounds i true) R (a.put oi.dst v) w → AnyB F P ops Q base (fuel + 1) listed R a w := by
 intro fuel
 induction fuel with
 | zero =>
  intro listed R a w _ hr hy hp H
  refine ⟨fun h => (by rw [h] at hr; cases hr), fun j hj => ?_⟩
  by_cases hji : j = i
  ·subst hji; exact hy.op hF (fun c => hdef _ _ c hi) hi hp ⟨R, .inl fun _ h => h, hp, H⟩
  ·have := ready_mono hj hji
   rw [H.1] at this
   cases this
 | succ fuel ih =>
  intro listed R a w hfree hr hy hp H
  refine ⟨fun h => (by rw [h] at hr; cases hr), fun j hj => ?_⟩
  by_cases hji : j = i
  ·subst hji; exact hy.op hF (fun c => hdef _ _ c hi) hi hp ⟨R, .inl fun _ h => h, hp, H⟩
  ·have h1 := H.2 j (ready_mono hj hji)
   obtain ⟨hjun, oj, hoj, hall⟩ := mem_ready.1 hj
   have hnot : ∀ e ∈ oj.after, Region.binds .any e = true → e.on ≠ i := fun e he hb heq => by
    have h1 := hall e he hb
    have h0 := (mem_ready.1 hr).1
    rw [heq] at h1
    rcases Nat.lt_or_ge i listed.size with h' | h'
    ·simp [h'] at h0 h1; rw [h0] at h1; cases h1
    ·simp [Array.getElem?_eq_none h'] at h1
   have h2 := wpOpIn_putR hF hoj (hfree j oj hoj hji hjun hnot) (fun cs b => hsel i oi cs b hi) (fun cs b => hsel j oj cs b hoj) (fun c => hdef j oj c hoj) hQ hy h1
   have hfree' : ∀ k ok, ops[k]? = some ok → k ≠ i → (listed.setIfInBounds j true).getD k true = false →
     (∀ e ∈ ok.after, Region.binds .any e = true → e.on ≠ i) → oi.apart ops ok = true := fun k ok hk hki hun hno => by
    refine hfree k ok hk hki ?_ hno
    by_cases hjk : j = k
    ·subst hjk; exact hjun
    ·rw [getD_set_ne true hjk] at hun; exact hun
   refine wpOpIn_mono (fun a' w' h3 => ?_) h2
   obtain ⟨hy', R', hs, hp', H'⟩ := h3
   have hs : ∀ p ∈ R, p ∈ R' := hs.resolve_right fun hd => by
    unfold depB at hd
    rw [hoj] at hd
    have hil := (mem_ready.1 hr).1
    have hsz : i < ops.size := (Array.getElem?_eq_some_iff.1 hi).1
    have h9 := List.all_eq_true.1 hd i (List.mem_range.2 hsz)
    have h10 : (listed.setIfInBounds i true).getD i false = true := by
     rcases Nat.lt_or_ge i listed.size with h' | h'
     ·simp [h']
     ·simp [Array.getElem?_eq_none h'] at hil
    rw [h10, hib] at h9
    simp only [Bool.not_true, Bool.false_or, Array.any_eq_true] at h9
    obtain ⟨x, hx, he⟩ := h9
    rw [Bool.and_eq_true] at he
    exact hnot _ (Array.getElem_mem hx) he.1 (by simpa using he.2)
   refine ⟨R', .inl hs, hp', ih (listed.setIfInBounds j true) R' a' w' hfree' (ready_mono hr (Ne.symm hji)) (hy'.more hs) hp' ?_⟩
   rw [Array.setIfInBounds_comm _ _ hji]
   exact H'
theorem RDc.anyB (hF : ∀ f, F.fn f) (hodd : noOdd ops = true) (hQ : ∀ c a d v w, Q (.panic c) (a.put d v) w → Q (.panic c) a w) {Fin : Chunk → Act → World → Prop} {more : Nat} {base last : Array Bool}
  (hfin : ∀ R a w, Pn w R → Fin R a w → ∀ fuel, more ≤ fuel → AnyB F P ops Q base fuel last R a w) :
  ∀ (l : List Nat) (fuel : Nat) (listed : Array Bool) (R : Chunk) (a : Act) (w : World), (∀ i ∈ l, base.getD i false = false) → l.length + more ≤ fuel → tick l listed = last → chkP ops l listed = true → Pn w R → RDc F P ops Q Fin l R a w → AnyB F P ops Q base fuel listed R a w := by
 have hsel : ∀ (j : Nat) (o : Oper) cs b, ops[j]? = some o → o.op ≠ .select cs b := fun j o cs b ho he => by
  have := Array.all_eq_true_iff_forall_mem.1 hodd o (Array.mem_of_getElem? ho)
  simp [he] at this
 have hdef : ∀ (j : Nat) (o : Oper) c, ops[j]? = some o → o.op ≠ .defer c := fun j o c ho he => by
  have := Array.all_eq_true_iff_forall_mem.1 hodd o (Array.mem_of_getElem? ho)
  simp [he] at this
 intro l
 induction l with
 | nil => intro fuel listed R a w _ hl ht _ hp h; subst ht; exact hfin R a w hp h fuel (by simpa using hl)
 | cons i l ih =>
  intro fuel listed R a w hb hl ht hc hp h
  have hb' : ∀ i ∈ l, base.getD i false = false := fun i hi => hb i (List.mem_cons_of_mem _ hi)
  obtain ⟨fuel, rfl⟩ : ∃ k, fuel = k + 1 := ⟨fuel - 1, by simp at hl; omega⟩
  obtain ⟨o, ho, h⟩ := h
  simp only [chkP, ho, Bool.and_eq_true] at hc
  obtain ⟨⟨hready, hkind⟩, hc⟩ := hc
  have hr : i ∈ Region.ready .any ops listed := by simpa using hready
  have hl' : l.length + more ≤ fuel := by simp at hl; omega
  rcases h with ⟨he, v, hy, h⟩ | ⟨he, h⟩
  ·rw [he] at hkind
   exact AnyB.first (hb i (List.mem_cons_self ..)) hF ho hsel hdef hQ fuel listed R a w (Region.free_spec ho (by simpa using hkind)) hr hy hp (ih fuel _ R _ w hb' hl' ht hc hp h)
  ·rw [he] at hkind
   have hk : Region.ready .any ops listed = [i] := by simpa using hkind
   refine ⟨fun h0 => (by rw [h0] at hr; cases hr), fun j hj => ?_⟩
   rw [hk] at hj
   obtain rfl : j = i := by simpa using hj
   exact wpOpIn_mono (fun a' w' ⟨R', hs, hp', h'⟩ => ⟨R', .inl hs, hp', ih fuel _ R' a' w' hb' hl' ht hc hp' h'⟩) h
end
theorem chain_anyB {P : Program} {l : List Oper} {F : Fence} {Q : Exit → Act → World → Prop} {base : Array Bool} : ∀ (ks : List Nat) (fuel : Nat) (listed : Array Bool) (R : Chunk) (a : Act) (w : World), ks.length ≤ fuel → chain l.toArray ks listed = true →
  ((∀ p ∈ R, p ∈ ([] : Chunk)) ∨ ∀ k ∈ ks.head?, depB l.toArray base listed k = true) → wpListIn F 0 P l.toArray Q (pickOps l ks) a w → AnyB F P l.toArray Q base fuel listed R a w
 | [], fuel, listed, R, a, w, _, hc, _, h => by
  simp only [chain] at hc
  exact AnyB.done (by simpa using hc) h fuel
 | k :: ks, fuel, listed, R, a, w, hf, hc, hd, h => by
  simp only [chain, Bool.and_eq_true, beq_iff_eq] at hc
  obtain ⟨⟨h1, h2⟩, h3⟩ := hc
  obtain ⟨fuel, rfl⟩ : ∃ f, fuel = f + 1 := ⟨fuel - 1, by simp at hf; omega⟩
  obtain ⟨o, ho⟩ := Option.isSome_iff_exists.1 h2
  have hn : nthOp l k = some o := by rw [nthOp_eq]; simpa using ho
  simp only [pickOps, hn] at h
  refine ⟨fun h0 => (by rw [h1] at h0; cases h0), fun k' hk => ?_⟩
  rw [h1] at hk
  obtain rfl : k' = k := by simpa using hk
  have h10 : wpOpIn F 0 P l.toArray Q k' (fun a' w' => wpListIn F 0 P l.toArray Q (pickOps l ks) a' w') a w := by
   unfold wpOpIn
   rw [ho]
   exact h
  refine wpOpIn_mono (fun a' w' hx => ⟨[], ?_, fun _ _ h => (by cases h), chain_anyB ks fuel _ [] a' w' (by simp at hf; omega) h3 (.inl fun _ h => h) hx⟩) h10
  rcases hd with hd | hd
  ·exact .inl hd
  ·exact .inr (hd _ (by simp))
theorem RDl.keep {F : Fence} {P : Program} {ops : Array Oper} {Q : Exit → Act → World → Prop} {Fin : Chunk → Act → World → Prop} : ∀ (l : List Oper) (R : Chunk) (a : Act) (w : World), (∀ o ∈ l, isEff o = false) → RDl F P ops Q Fin l R a w → RDl F P ops Q (fun R' a w => Fin R' a w ∧ R' = R) l R a w
 | [], _, _, _, _, h => ⟨h, rfl⟩
 | o :: l, R, a, w, hl, h => by
  rcases h with ⟨he, v, hy, h⟩ | ⟨he, _⟩
  ·exact .inl ⟨he, v, hy, RDl.keep l R _ w (fun o ho => hl o (List.mem_cons_of_mem _ ho)) h⟩
  ·rw [hl o (List.mem_cons_self ..)] at he; cases he
def regionOkS (n : Nat) (ops : Array Oper) (is0 is : List Nat) (k : Nat) (ks : List Nat) : Bool :=
 noOdd ops && ops.all (dstOk n) && decide (is0.length + (is.length + (ks.length + 1)) ≤ ops.size) && chkP ops is0 (Array.replicate ops.size false) && chkP ops is (tick is0 (Array.replicate ops.size false)) &&
  (pickOps ops.toList is0).all (fun o => !isEff o) && is.all (fun i => !(tick is0 (Array.replicate ops.size false)).getD i false) && depB ops (tick is0 (Array.replicate ops.size false)) (tick is (tick is0 (Array.replicate ops.size false))) k && chain ops (k :: ks) (tick is (tick is0 (Array.replicate ops.size false)))
section
variable {P : Program} {w0 : World} {rd : Option Nat} {n : Nat} {K : Post} {ρ : Env} {ds : List Deferred} {L : Chunk} {l : List Oper}
theorem CW.drawsSw {id : Nat} (is0 is : List Nat) (k : Nat) (ks : List Nat) (hm : P.follows .mixedOrders = true) (hok : regionOkS n l.toArray is0 is k ks = true) [hK : StdC K]
  {l0 l1 l2 : List Oper} [p0 : Pick l is0 l0] [p1 : Pick l is l1] [p2 : Pick l (k :: ks) l2]
  (h : RW P w0 rd n l.toArray (thenK (fun ρ ds L => RW P w0 rd n l.toArray (thenK (fun ρ ds L => OW P w0 rd n l.toArray K l2 ρ ds L) K) l1 L ρ ds L) K) l0 [] ρ ds L) : CW P w0 rd n (.region id l.toArray true) K ρ ds L := by
 have := p0.out; subst this
 have := p1.out; subst this
 have := p2.out; subst this
 intro a w hr hs
 simp only [regionOkS, Bool.and_eq_true, decide_eq_true_eq] at hok
 obtain ⟨⟨⟨⟨⟨⟨⟨⟨h1, h2⟩, h3⟩, h4⟩, h5⟩, h50⟩, h6⟩, h7⟩, h8⟩ := hok
 have hpure : ∀ o ∈ pickOps l is0, isEff o = false := fun o ho => by simpa using List.all_eq_true.1 h50 o ho
 have hmem : ∀ {is : List Nat} (o : Oper), o ∈ pickOps l is → dstOk n o = true := fun o ho => Array.all_eq_true_iff_forall_mem.1 h2 o (by simpa using pickOps_mem ho)
 have hin : ∀ {is : List Nat}, ∀ o ∈ pickOps l is, ∃ i : Nat, l.toArray[i]? = some o := fun o ho => by
  obtain ⟨k, hk⟩ := List.mem_iff_getElem?.1 (pickOps_mem ho)
  exact ⟨k, by simpa using hk⟩
 refine wpIn_region_any hm (AnyR.any _ _ [] _ _ ?_)
 refine RDc.anyP (more := is.length + (ks.length + 1)) (last := tick is0 (Array.replicate l.toArray.size false)) (Fin := fun R' a w => FinR w0 n (thenK (fun ρ ds L => RW P w0 rd n l.toArray (thenK (fun ρ ds L => OW P w0 rd n l.toArray K (pickOps l (k :: ks)) ρ ds L) K) (pickOps l is) L ρ ds L) K) R' a w ∧ R' = [])
  (fence_fn rd) h1 (Kx.steady hK.out) (fun R a w hp hf fuel hfu => ?_) is0 _ _ [] a _ (by omega) rfl h4 (fun _ _ h => (by cases h)) (RDl.rdc is0 _ [] a _ h4 ?_)
 ·obtain ⟨⟨ρ, ds, L, hr, hs, hRL, hw⟩, rfl⟩ := hf
  have hw : RW P w0 rd n l.toArray (thenK (fun ρ ds L => OW P w0 rd n l.toArray K (pickOps l (k :: ks)) ρ ds L) K) (pickOps l is) L ρ ds L := hw
  have hw2 := hw hmem (fun _ h => h) a w hr hs
  have hw3 := RDl.quit (Q' := Kx w0 n K) (Q := Kx w0 n (thenK (fun ρ ds L => OW P w0 rd n l.toArray K (pickOps l (k :: ks)) ρ ds L) K)) (fun e a w h => h) (fun ⟨a, w, h⟩ => ⟨a, w, h⟩) (pickOps l is) L a _ hin hw2
  have hb := RDc.anyB (base := tick is0 (Array.replicate l.toArray.size false)) (more := ks.length + 1) (last := tick is (tick is0 (Array.replicate l.toArray.size false))) (Fin := FinR w0 n (thenK (fun ρ ds L => OW P w0 rd n l.toArray K (pickOps l (k :: ks)) ρ ds L) K))
   (fence_fn rd) h1 (Kx.steady hK.out) (fun R a w hp hf fuel hfu => by
    obtain ⟨ρ, ds, L, hr, hs, hRL, hw⟩ := hf
    have hw : OW P w0 rd n l.toArray K (pickOps l (k :: ks)) ρ ds L := hw
    have h9 := hw (List.all_eq_true.2 fun o ho => hmem o ho) a w hr hs
    exact chain_anyB (k :: ks) fuel _ R a w (by simpa using hfu) h8 (.inr fun k' hk => by
     obtain rfl : k' = k := by simpa using hk.symm
     exact h7) h9) is fuel _ L a w (fun i hi => by simpa using List.all_eq_true.1 h6 i hi) hfu rfl h5 hs.pn (RDl.rdc is _ L a w h5 hw3)
  have hany := AnyB.anyR _ _ _ _ _ hb
  exact hany
 ·have h12 := h hmem (fun _ h => (by cases h)) a _ hr hs.drew
  exact RDl.keep _ _ _ _ hpure (RDl.quit (Q' := Kx w0 n K) (Q := Kx w0 n (thenK (fun ρ ds L => RW P w0 rd n l.toArray (thenK (fun ρ ds L => OW P w0 rd n l.toArray K (pickOps l (k :: ks)) ρ ds L) K) (pickOps l is) L ρ ds L) K)) (fun e a w h => h) (fun ⟨a, w, h⟩ => ⟨a, w, h⟩) (pickOps l is0) [] a _ hin h12)
end
end Go.Pw

namespace Go.Pw
open Go.Sort
class LtS (i n : Nat) : Prop where out : i < n
def kvs (k : IntKind) (d : Array Int) : List Value := d.toList.map (Value.int k)
theorem kvs_len (k : IntKind) (d : Array Int) : (kvs k d).length = d.size := by simp [kvs]
instance rdK {k : IntKind} {d : Array Int} {rest : List Value} {i : Nat} [h : LtS i d.size] : NthL (kvs k d ++ rest) i (.int k d[i]!) := ⟨by
 have hi := h.out
 rw [List.getElem?_append_left (by rw [kvs_len]; exact hi)]
 simp [kvs, hi]⟩
instance stK {k : IntKind} {d : Array Int} {rest : List Value} {i : Nat} {x : Int} [h : LtS i d.size] : SetL (kvs k d ++ rest) i (.int k x) (kvs k (d.setIfInBounds i x) ++ rest) := ⟨by
 have hi := h.out
 rw [List.length_append, kvs_len]; omega, by
 have hi := h.out
 rw [List.set_append_left _ _ (by rw [kvs_len]; exact hi)]
 simp [kvs, List.map_set]⟩
instance ltSet {i j : Nat} {d : Array Int} {x : Int} [h : LtS i d.size] : LtS i (d.setIfInBounds j x).size := ⟨by simpa using h.out⟩
instance ltSwp {i j k : Nat} {d : Array Int} [h : LtS i d.size] : LtS i (swp d j k).size := ⟨by simpa [swp] using h.out⟩
structure Srt (m : Nat) (d : Array Int) : Prop where
 size : d.size = m
 len : m < 4611686018427387904
theorem Srt.swp {m : Nat} {d : Array Int} (h : Srt m d) (i j : Nat) : Srt m (swp d i j) := ⟨by rw [size_swp]; exact h.size, h.len⟩
end Go.Pw

namespace Go.Pw
def exitK (id : Nat) (E : Env → List Deferred → Chunk → Prop) : Post
 | .exit id', ρ, ds, L => id' = id ∧ E ρ ds L
 | _, _, _, _ => False
instance {id : Nat} {E : Env → List Deferred → Chunk → Prop} : StdC (exitK id E) := ⟨fun _ _ _ _ _ h => h.elim⟩
section
variable {P : Program} {w0 : World} {rd : Option Nat} {n : Nat} {K : Post} {ρ : Env} {ds : List Deferred} {L : Chunk}
theorem exitK_to {id : Nat} {E : Env → List Deferred → Chunk → Prop} (h : E ρ ds L) : exitK id E (.exit id) ρ ds L := ⟨rfl, h⟩
theorem CW.loopE {c : Code} (id : Nat) (E : Env → List Deferred → Chunk → Prop) (I : Nat → Env → List Deferred → Chunk → Prop) (m : Nat) (h0 : I m ρ ds L)
  (round : ∀ m ρ ds L, I m ρ ds L → CW P w0 rd n c (thenK (fun ρ' ds' L' => ∃ m', m' < m ∧ I m' ρ' ds' L') (exitK id E)) ρ ds L) (next : ∀ ρ ds L, E ρ ds L → K (.exit id) ρ ds L) :
  CW P w0 rd n (.loop c) K ρ ds L := by
 refine CW.mono (CW.loop (K := exitK id E) I m h0 round) fun e ρ ds L h => ?_
 cases e with
 | exit i =>
  obtain ⟨rfl, h⟩ := h
  exact next ρ ds L h
 | _ => exact h.elim
end
end Go.Pw

namespace Go.Pw
class MixC (P : Program) : Prop where out : P.follows .mixedOrders = true
class DrP (id : Nat) (is : outParam (List Nat)) : Prop where t : True
class DrS (id : Nat) (s : outParam Nat) (is : outParam (List Nat)) : Prop where t : True
class DrC (id : Nat) (a b : outParam (List Nat)) (k : outParam Nat) (c : outParam (List Nat)) : Prop where t : True
class DrT (id : Nat) (T : outParam OT) : Prop where t : True
class DrA (id : Nat) (T : outParam AT) : Prop where t : True
section
variable {P : Program} {w0 : World} {rd : Option Nat} {n : Nat} {K : Post} {ρ : Env} {ds : List Deferred} {L : Chunk} {l : List Oper} {id : Nat}
theorem zzP {is : List Nat} [hd : DrP id is] [hm : MixC P] [hK : StdC K] {l' : List Oper} [hp : Pick l is l'] (h : RW P w0 rd n l.toArray K l' L ρ ds L) (hok : regionOk n l.toArray is = true := by kernel_rfl) : CW P w0 rd n (.region id l.toArray true) K ρ ds L := CW.drawsP is hm.out hok h
theorem zzS {s : Nat} {is : List Nat} [hd : DrS id s is] [hm : MixC P] [hK : StdC K] {b k : Nat} {R : Chunk} [hb : Ev ρ s (.pointer (some ⟨b, k, none⟩))] [hr : DropC L b R] {l' : List Oper} [hp : Pick l is l'] (h : RW P w0 rd n l.toArray K l' R ρ ds L) (hok : regionOk n l.toArray is = true := by kernel_rfl) : CW P w0 rd n (.region id l.toArray true) K ρ ds L := CW.drawsS s is hm.out hok h
theorem zzC {is0 is : List Nat} {k : Nat} {ks : List Nat} [hd : DrC id is0 is k ks] [hm : MixC P] [hK : StdC K] {l0 l1 l2 : List Oper} [p0 : Pick l is0 l0] [p1 : Pick l is l1] [p2 : Pick l (k :: ks) l2]
  (h : RW P w0 rd n l.toArray (thenK (fun ρ ds L => RW P w0 rd n l.toArray (thenK (fun ρ ds L => OW P w0 rd n l.toArray K l2 ρ ds L) K) l1 L ρ ds L) K) l0 [] ρ ds L) (hok : regionOkS n l.toArray is0 is k ks = true := by kernel_rfl) : CW P w0 rd n (.region id l.toArray true) K ρ ds L := CW.drawsSw is0 is k ks hm.out hok h
theorem zzT {T : OT} [hd : DrT id T] [hm : MixC P] [hK : StdC K] (h : TRW P w0 rd n l K T none L ρ ds L) (hok : regionOkT n l.toArray T = true := by kernel_rfl) : CW P w0 rd n (.region id l.toArray true) K ρ ds L := CW.drawsTreeA T hm.out hok h
theorem zzA {T : AT} [hd : DrA id T] [hm : MixC P] (h : ATW P w0 rd n l K T ρ ds L) (hok : regionOkA n l.toArray T = true := by kernel_rfl) : CW P w0 rd n (.region id l.toArray true) K ρ ds L := CW.drawsA T hm.out hok h
end
theorem Ga0 {p : Prop} {α : Sort _} {q : α → Prop} (h : ∀ x, q x) (f : (∀ x, q x) → p := by intro h; first|exact Z2 h|fail) : p := f h
theorem Ga1 {p q : Prop} (h : q) (f : q → p := by intro h; first|exact Y1 h|exact Y2 h|exact Y3 h|exact Y5 h|exact Y7 h|exact Z1 h|exact Y8 h|exact Y9 h|exact Y10 h|exact Y11 h|exact Y12 h|exact Y13 h|exact Z3 h|exact Z4 h|exact Z5 h|fail) : p := f h
theorem Ga2 {p : Prop} {α β : Sort _} {q : α → Prop} {r : β → Prop} (h : ∀ x, q x) (k : ∀ x, r x) (f : (∀ x, q x) → (∀ x, r x) → p := by intro h k; first|exact OW.dec h k|fail) : p := f h k
theorem Ga3 {p q : Prop} (h : q) (f : q → p := by intro h; first|exact Y14 h|exact Y15 h|exact Z8 h|exact Z9 h|exact OW.ixV (by constructor; omega; omega) h|exact Y16 h|exact Y20 h|exact Y21 h|exact Y22 h|exact Y24 h|exact Y25 h|exact Y26 h|exact Y27 h|fail) : p := f h
theorem Ga4 {p : Prop} {α : Sort _} {q : α → Prop} (h : ∀ x, q x) (f : (∀ x, q x) → p := by intro h; first|exact OW.a h|fail) : p := f h
theorem Gb0 {p : Prop} {α : Sort _} {q : α → Prop} (h : ∀ x, q x) (f : (∀ x, q x) → p := by intro h; first|exact Z2 h|fail) : p := f h
theorem Gb1 {p q : Prop} (h : q) (f : q → p := by intro h; first|exact Y1 h|exact Y2 h|exact Y3 h|exact Y5 h|exact Y7 h|exact Z1 h|exact Y8 h|exact Y9 h|exact Y10 h|exact Y11 h|exact Y12 h|exact Y13 h|exact Z3 h|exact Z7 h|exact Z6 h|exact Z4 h|exact Z5 h|fail) : p := f h
theorem Gb2 {p : Prop} {α β : Sort _} {q : α → Prop} {r : β → Prop} (h : ∀ x, q x) (k : ∀ x, r x) (f : (∀ x, q x) → (∀ x, r x) → p := by intro h k; first|exact OW.dec h k|fail) : p := f h k
theorem Gb3 {p q : Prop} (h : q) (f : q → p := by intro h; first|exact Y14 h|exact Y15 h|exact Z8 h|exact Z9 h|exact OW.ixV (by constructor; omega; omega) h|exact Y16 h|exact Y20 h|exact Y21 h|exact Y22 h|exact Y24 h|exact Y25 h|exact Y26 h|exact Y27 h|fail) : p := f h
theorem Gb4 {p : Prop} {α : Sort _} {q : α → Prop} (h : ∀ x, q x) (f : (∀ x, q x) → p := by intro h; first|exact OW.a h|fail) : p := f h
theorem Gc0 {p : Prop} {α : Sort _} {q : α → Prop} (h : ∀ x, q x) (f : (∀ x, q x) → p := by intro h; first|exact Z2 h|fail) : p := f h
theorem Gc1 {p q : Prop} (h : q) (f : q → p := by intro h; first|exact Y1 h|exact Y2 h|exact Y3 h|exact Y5 h|exact Y7 h|exact Z1 h|exact Y8 h|exact Y9 h|exact Y10 h|exact Y11 h|exact Y12 h|exact Y13 h|exact Z3 h|exact Z4 h|exact Z5 h|fail) : p := f h
theorem Gc2 {p : Prop} {α β : Sort _} {q : α → Prop} {r : β → Prop} (h : ∀ x, q x) (k : ∀ x, r x) (f : (∀ x, q x) → (∀ x, r x) → p := by intro h k; first|exact OW.dec h k|fail) : p := f h k
theorem Gc3 {p q : Prop} (h : q) (f : q → p := by intro h; first|exact Y14 h|exact Y15 h|exact Z8 h|exact Z9 h|exact OW.ixV (by constructor; omega; omega) h|exact Y16 h|exact Y20 h|exact Y21 h|exact Y22 h|exact Y24 h|exact Y25 h|exact Y26 h|exact Y27 h|exact Y29 h|exact Y30 h|exact Y31 h|fail) : p := f h
theorem Gc4 {p : Prop} {α : Sort _} {q : α → Prop} (h : ∀ x, q x) (f : (∀ x, q x) → p := by intro h; first|exact OW.a h|fail) : p := f h
theorem Ge0 {p : Prop} {α : Sort _} {q : α → Prop} (h : ∀ x, q x) (f : (∀ x, q x) → p := by intro h; first|exact Z2 h|fail) : p := f h
theorem Ge1 {p q : Prop} (h : q) (f : q → p := by intro h; first|exact Y1 h|exact Y2 h|exact Y3 h|exact Y4 h|exact Y5 h|exact Y6 h|exact Y7 h|exact Z1 h|exact Y8 h|exact Y9 h|exact CW.scope 3 h|exact Y10 h|exact Y11 h|exact Y12 h|exact Y13 h|exact Z3 h|exact Z4 h|exact Z5 h|fail) : p := f h
theorem Ge2 {p : Prop} {α β : Sort _} {q : α → Prop} {r : β → Prop} (h : ∀ x, q x) (k : ∀ x, r x) (f : (∀ x, q x) → (∀ x, r x) → p := by intro h k; first|exact OW.dec h k|fail) : p := f h k
theorem Ge3 {p q : Prop} (h : q) (f : q → p := by intro h; first|exact Y14 h|exact Y15 h|exact Z8 h|exact Z9 h|exact OW.ixV (by constructor; omega; omega) h|exact Y16 h|exact Y20 h|exact Y21 h|exact Y22 h|exact Y23 h|exact Y24 h|exact Y25 h|exact Y26 h|exact Y27 h|exact Y28 h|exact Y32 h|exact Y33 h|exact Y34 h|exact scopeK_goto (by rfl) h|fail) : p := f h
theorem Ge4 {p : Prop} {α : Sort _} {q : α → Prop} (h : ∀ x, q x) (f : (∀ x, q x) → p := by intro h; first|exact OW.a h|fail) : p := f h
theorem Gi0 {p : Prop} {α : Sort _} {q : α → Prop} (h : ∀ x, q x) (f : (∀ x, q x) → p := by intro h; first|exact Z2 h|exact Z11 h|fail) : p := f h
theorem Hi1 {p q : Prop} (h : q) (f : q → p := by intro h; first|exact Y1 h|exact Y2 h|exact Y3 h|exact Y5 h|exact Y7 h|exact Z1 h|exact Y8 h|exact Y9 h|exact Y10 h|exact Y11 h|exact Y12 h|exact Y13 h|exact Z3 h|exact Z4 h|exact Z5 h|exact Y17 h|exact Y18 h|exact Y19 h|exact Z12 h|exact Z13 h|exact Z14 h|fail) : p := f h
theorem Gi1 {p q : Prop} (h : q) (f : q → p := by intro h; first|exact Y1 h|exact Y2 h|exact Y3 h|exact Y5 h|exact Y7 h|exact Z1 h|exact Y8 h|exact Y9 h|exact Y10 h|exact Y11 h|exact Y12 h|exact Y13 h|exact Z3 h|exact Z4 h|exact Z5 h|exact Y17 h|exact Y18 h|exact Y19 h|exact Z12 h|exact Z13 h|exact Z14 h|exact zzP h|exact zzS h|exact zzC h|exact zzT h|exact zzA h|fail) : p := f h
theorem Gi2 {p : Prop} {α β : Sort _} {q : α → Prop} {r : β → Prop} (h : ∀ x, q x) (k : ∀ x, r x) (f : (∀ x, q x) → (∀ x, r x) → p := by intro h k; first|exact OW.dec h k|exact RW.dec rfl h k|fail) : p := f h k
theorem Gi3 {p q : Prop} (h : q) (f : q → p := by intro h; first|exact Y14 h|exact Y15 h|exact Z8 h|exact Z9 h|exact OW.ixV (by constructor; omega; omega) h|exact Y16 h|exact Z15 h|exact Z16 h|exact Z17 h|exact Z18 h|exact RW.ixV (by constructor; omega; omega) h|exact Z19 h|exact Y20 h|exact Y21 h|exact Y22 h|exact Y24 h|exact Y25 h|exact Y26 h|exact Y27 h|fail) : p := f h
theorem Gi4 {p : Prop} {α : Sort _} {q : α → Prop} (h : ∀ x, q x) (f : (∀ x, q x) → p := by intro h; first|exact OW.a h|exact Z20 h|fail) : p := f h
theorem Gj0 {p : Prop} {α : Sort _} {q : α → Prop} (h : ∀ x, q x) (f : (∀ x, q x) → p := by intro h; first|exact Z2 h|exact Z11 h|fail) : p := f h
theorem Gj1 {p q : Prop} (h : q) (f : q → p := by intro h; first|exact Y1 h|exact Y2 h|exact Y3 h|exact Y5 h|exact Y7 h|exact Z1 h|exact Y8 h|exact Y9 h|exact Y10 h|exact Y11 h|exact Y12 h|exact Y13 h|exact Z3 h|exact Z7 h|exact Z6 h|exact Z4 h|exact Z5 h|exact Y17 h|exact Y18 h|exact Y19 h|exact Z12 h|exact RW.quo (by refine ⟨?_, ?_, ?_, ?_⟩; omega; omega; omega; omega) h|exact RW.rem (by constructor; omega; omega) h|exact Z13 h|exact Z14 h|exact zzP h|exact zzS h|exact zzC h|exact zzT h|exact zzA h|fail) : p := f h
theorem Gj2 {p : Prop} {α β : Sort _} {q : α → Prop} {r : β → Prop} (h : ∀ x, q x) (k : ∀ x, r x) (f : (∀ x, q x) → (∀ x, r x) → p := by intro h k; first|exact OW.dec h k|exact RW.dec rfl h k|fail) : p := f h k
theorem Gj3 {p q : Prop} (h : q) (f : q → p := by intro h; first|exact Y14 h|exact Y15 h|exact Z8 h|exact Z9 h|exact OW.ixV (by constructor; omega; omega) h|exact Y16 h|exact Z15 h|exact Z16 h|exact Z17 h|exact Z18 h|exact RW.ixV (by constructor; omega; omega) h|exact Z19 h|exact Y20 h|exact Y21 h|exact Y22 h|exact Y24 h|exact Y25 h|exact Y26 h|exact Y27 h|fail) : p := f h
theorem Gj4 {p : Prop} {α : Sort _} {q : α → Prop} (h : ∀ x, q x) (f : (∀ x, q x) → p := by intro h; first|exact OW.a h|exact Z20 h|fail) : p := f h
theorem Gm0 {p : Prop} {α : Sort _} {q : α → Prop} (h : ∀ x, q x) (f : (∀ x, q x) → p := by intro h; first|exact Z2 h|exact Z11 h|fail) : p := f h
theorem Gm1 {p q : Prop} (h : q) (f : q → p := by intro h; first|exact Y1 h|exact Y2 h|exact Y3 h|exact Y4 h|exact Y5 h|exact Y6 h|exact Y7 h|exact Z1 h|exact Y8 h|exact Y9 h|exact CW.scope 3 h|exact Y10 h|exact Y11 h|exact Y12 h|exact Y13 h|exact Z3 h|exact Z4 h|exact Z5 h|exact Y17 h|exact Y18 h|exact Y19 h|exact Z12 h|exact Z13 h|exact Z14 h|exact zzP h|exact zzS h|exact zzC h|exact zzT h|exact zzA h|fail) : p := f h
theorem Gm2 {p : Prop} {α β : Sort _} {q : α → Prop} {r : β → Prop} (h : ∀ x, q x) (k : ∀ x, r x) (f : (∀ x, q x) → (∀ x, r x) → p := by intro h k; first|exact OW.dec h k|exact RW.dec rfl h k|fail) : p := f h k
theorem Gm3 {p q : Prop} (h : q) (f : q → p := by intro h; first|exact Y14 h|exact Y15 h|exact Z8 h|exact Z9 h|exact OW.ixV (by constructor; omega; omega) h|exact Y16 h|exact Z15 h|exact Z16 h|exact Z17 h|exact Z18 h|exact RW.ixV (by constructor; omega; omega) h|exact Z19 h|exact Y20 h|exact Y21 h|exact Y22 h|exact Y23 h|exact Y24 h|exact Y25 h|exact Y26 h|exact Y27 h|exact Y28 h|exact Y32 h|exact Y33 h|exact Y34 h|exact scopeK_goto (by rfl) h|fail) : p := f h
theorem Gm4 {p : Prop} {α : Sort _} {q : α → Prop} (h : ∀ x, q x) (f : (∀ x, q x) → p := by intro h; first|exact OW.a h|exact Z20 h|fail) : p := f h
end Go.Pw

namespace Go.Proofs.YtmnhooepaemlcaaGreat
open Go Go.Pw
section
set_option maxRecDepth 100000
instance : Agg Tryz.prog 0 false := ⟨Tryz.isAgg0⟩
instance : Siz Tryz.prog 0 1 := ⟨Tryz.sizeOf0⟩
instance : Byt Tryz.prog 0 0 := ⟨_, Tryz.type0, rfl⟩
instance : Zer Tryz.prog 0 (.tuple #[]) := ⟨Tryz.zeroValue0⟩
instance : Agg Tryz.prog 1 false := ⟨Tryz.isAgg1⟩
instance : Siz Tryz.prog 1 1 := ⟨Tryz.sizeOf1⟩
instance : Byt Tryz.prog 1 8 := ⟨_, Tryz.type1, rfl⟩
instance : Zer Tryz.prog 1 (.nilFunc) := ⟨Tryz.zeroValue1⟩
instance : Und Tryz.prog 3 (.int .i64) := ⟨Tryz.underlying3⟩
instance : Agg Tryz.prog 3 false := ⟨Tryz.isAgg3⟩
instance : Siz Tryz.prog 3 1 := ⟨Tryz.sizeOf3⟩
instance : Byt Tryz.prog 3 8 := ⟨_, Tryz.type3, rfl⟩
instance : Zer Tryz.prog 3 (.int .i64 0) := ⟨Tryz.zeroValue3⟩
instance : Und Tryz.prog 4 .bool := ⟨Tryz.underlying4⟩
instance : Agg Tryz.prog 4 false := ⟨Tryz.isAgg4⟩
instance : Siz Tryz.prog 4 1 := ⟨Tryz.sizeOf4⟩
instance : Byt Tryz.prog 4 1 := ⟨_, Tryz.type4, rfl⟩
instance : Zer Tryz.prog 4 (.bool false) := ⟨Tryz.zeroValue4⟩
instance : Und Tryz.prog 5 (.int .u8) := ⟨Tryz.underlying5⟩
instance : Agg Tryz.prog 5 false := ⟨Tryz.isAgg5⟩
instance : Siz Tryz.prog 5 1 := ⟨Tryz.sizeOf5⟩
instance : Byt Tryz.prog 5 1 := ⟨_, Tryz.type5, rfl⟩
instance : Zer Tryz.prog 5 (.int .u8 0) := ⟨Tryz.zeroValue5⟩
instance : Und Tryz.prog 9 .string := ⟨Tryz.underlying9⟩
instance : Agg Tryz.prog 9 false := ⟨Tryz.isAgg9⟩
instance : Siz Tryz.prog 9 1 := ⟨Tryz.sizeOf9⟩
instance : Byt Tryz.prog 9 16 := ⟨_, Tryz.type9, rfl⟩
instance : Zer Tryz.prog 9 (.string ByteArray.empty) := ⟨Tryz.zeroValue9⟩
instance : Agg Tryz.prog 20 false := ⟨Tryz.isAgg20⟩
instance : Siz Tryz.prog 20 1 := ⟨Tryz.sizeOf20⟩
instance : Byt Tryz.prog 20 16 := ⟨_, Tryz.type20, rfl⟩
instance : Zer Tryz.prog 20 (.nilIface) := ⟨Tryz.zeroValue20⟩
instance : Und Tryz.prog 23 (.slice 108) := ⟨Tryz.underlying23⟩
instance : Agg Tryz.prog 23 false := ⟨Tryz.isAgg23⟩
instance : Siz Tryz.prog 23 1 := ⟨Tryz.sizeOf23⟩
instance : Byt Tryz.prog 23 24 := ⟨_, Tryz.type23, rfl⟩
instance : Zer Tryz.prog 23 (.slice none 0 0) := ⟨Tryz.zeroValue23⟩
instance : Und Tryz.prog 24 (.slice 113) := ⟨Tryz.underlying24⟩
instance : Agg Tryz.prog 24 false := ⟨Tryz.isAgg24⟩
instance : Siz Tryz.prog 24 1 := ⟨Tryz.sizeOf24⟩
instance : Byt Tryz.prog 24 24 := ⟨_, Tryz.type24, rfl⟩
instance : Zer Tryz.prog 24 (.slice none 0 0) := ⟨Tryz.zeroValue24⟩
instance : Und Tryz.prog 25 (.int .i64) := ⟨Tryz.underlying25⟩
instance : Agg Tryz.prog 25 false := ⟨Tryz.isAgg25⟩
instance : Siz Tryz.prog 25 1 := ⟨Tryz.sizeOf25⟩
instance : Byt Tryz.prog 25 8 := ⟨_, Tryz.type25, rfl⟩
instance : Zer Tryz.prog 25 (.int .i64 0) := ⟨Tryz.zeroValue25⟩
instance : Agg Tryz.prog 27 true := ⟨Tryz.isAgg27⟩
instance : Siz Tryz.prog 27 2 := ⟨Tryz.sizeOf27⟩
instance : Byt Tryz.prog 27 16 := ⟨_, Tryz.type27, rfl⟩
instance : Zer Tryz.prog 27 (.agg #[.int .i64 0, .int .i64 0]) := ⟨Tryz.zeroValue27⟩
instance : Fld Tryz.prog 27 0 0 := ⟨_, _, Tryz.underlying27, rfl, rfl, fun w => ⟨_, Tryz.sizeOf25 w⟩⟩
instance : Fld Tryz.prog 27 1 1 := ⟨_, _, Tryz.underlying27, rfl, rfl, fun w => ⟨_, Tryz.sizeOf3 w⟩⟩
instance : Plc Tryz.prog 27 [(0, 1), (1, 1)] := ⟨_, Tryz.underlying27, fun w => by kernel_rfl⟩
instance : Und Tryz.prog 28 (.int .i64) := ⟨Tryz.underlying28⟩
instance : Agg Tryz.prog 28 false := ⟨Tryz.isAgg28⟩
instance : Siz Tryz.prog 28 1 := ⟨Tryz.sizeOf28⟩
instance : Byt Tryz.prog 28 8 := ⟨_, Tryz.type28, rfl⟩
instance : Zer Tryz.prog 28 (.int .i64 0) := ⟨Tryz.zeroValue28⟩
instance : Agg Tryz.prog 29 false := ⟨Tryz.isAgg29⟩
instance : Siz Tryz.prog 29 1 := ⟨Tryz.sizeOf29⟩
instance : Byt Tryz.prog 29 0 := ⟨_, Tryz.type29, rfl⟩
instance : Agg Tryz.prog 32 true := ⟨Tryz.isAgg32⟩
instance : Siz Tryz.prog 32 2 := ⟨Tryz.sizeOf32⟩
instance : Byt Tryz.prog 32 16 := ⟨_, Tryz.type32, rfl⟩
instance : Zer Tryz.prog 32 (.agg #[.int .i64 0, .int .i64 0]) := ⟨Tryz.zeroValue32⟩
instance : Fld Tryz.prog 32 0 0 := ⟨_, _, Tryz.underlying32, rfl, rfl, fun w => ⟨_, Tryz.sizeOf3 w⟩⟩
instance : Fld Tryz.prog 32 1 1 := ⟨_, _, Tryz.underlying32, rfl, rfl, fun w => ⟨_, Tryz.sizeOf3 w⟩⟩
instance : Plc Tryz.prog 32 [(0, 1), (1, 1)] := ⟨_, Tryz.underlying32, fun w => by kernel_rfl⟩
instance : Agg Tryz.prog 33 false := ⟨Tryz.isAgg33⟩
instance : Siz Tryz.prog 33 1 := ⟨Tryz.sizeOf33⟩
instance : Byt Tryz.prog 33 0 := ⟨_, Tryz.type33, rfl⟩
instance : Und Tryz.prog 35 (.slice 3) := ⟨Tryz.underlying35⟩
instance : Agg Tryz.prog 35 false := ⟨Tryz.isAgg35⟩
instance : Siz Tryz.prog 35 1 := ⟨Tryz.sizeOf35⟩
instance : Byt Tryz.prog 35 24 := ⟨_, Tryz.type35, rfl⟩
instance : Zer Tryz.prog 35 (.slice none 0 0) := ⟨Tryz.zeroValue35⟩
instance : Agg Tryz.prog 36 false := ⟨Tryz.isAgg36⟩
instance : Siz Tryz.prog 36 1 := ⟨Tryz.sizeOf36⟩
instance : Byt Tryz.prog 36 0 := ⟨_, Tryz.type36, rfl⟩
instance : Agg Tryz.prog 39 false := ⟨Tryz.isAgg39⟩
instance : Siz Tryz.prog 39 1 := ⟨Tryz.sizeOf39⟩
instance : Byt Tryz.prog 39 8 := ⟨_, Tryz.type39, rfl⟩
instance : Zer Tryz.prog 39 (.nilFunc) := ⟨Tryz.zeroValue39⟩
instance : Und Tryz.prog 43 (.array 2 3) := ⟨Tryz.underlying43⟩
instance : Agg Tryz.prog 43 true := ⟨Tryz.isAgg43⟩
instance : Siz Tryz.prog 43 2 := ⟨Tryz.sizeOf43⟩
instance : Byt Tryz.prog 43 16 := ⟨_, Tryz.type43, rfl⟩
instance : Zer Tryz.prog 43 (.agg #[.int .i64 0, .int .i64 0]) := ⟨Tryz.zeroValue43⟩
instance : Und Tryz.prog 44 (.slice 58) := ⟨Tryz.underlying44⟩
instance : Agg Tryz.prog 44 false := ⟨Tryz.isAgg44⟩
instance : Siz Tryz.prog 44 1 := ⟨Tryz.sizeOf44⟩
instance : Byt Tryz.prog 44 24 := ⟨_, Tryz.type44, rfl⟩
instance : Zer Tryz.prog 44 (.slice none 0 0) := ⟨Tryz.zeroValue44⟩
instance : Und Tryz.prog 45 (.int .i64) := ⟨Tryz.underlying45⟩
instance : Agg Tryz.prog 45 false := ⟨Tryz.isAgg45⟩
instance : Siz Tryz.prog 45 1 := ⟨Tryz.sizeOf45⟩
instance : Byt Tryz.prog 45 8 := ⟨_, Tryz.type45, rfl⟩
instance : Zer Tryz.prog 45 (.int .i64 0) := ⟨Tryz.zeroValue45⟩
instance : Und Tryz.prog 46 (.int .u32) := ⟨Tryz.underlying46⟩
instance : Agg Tryz.prog 46 false := ⟨Tryz.isAgg46⟩
instance : Siz Tryz.prog 46 1 := ⟨Tryz.sizeOf46⟩
instance : Byt Tryz.prog 46 4 := ⟨_, Tryz.type46, rfl⟩
instance : Zer Tryz.prog 46 (.int .u32 0) := ⟨Tryz.zeroValue46⟩
instance : Und Tryz.prog 47 (.int .u64) := ⟨Tryz.underlying47⟩
instance : Agg Tryz.prog 47 false := ⟨Tryz.isAgg47⟩
instance : Siz Tryz.prog 47 1 := ⟨Tryz.sizeOf47⟩
instance : Byt Tryz.prog 47 8 := ⟨_, Tryz.type47, rfl⟩
instance : Zer Tryz.prog 47 (.int .u64 0) := ⟨Tryz.zeroValue47⟩
instance : Und Tryz.prog 48 (.slice 5) := ⟨Tryz.underlying48⟩
instance : Agg Tryz.prog 48 false := ⟨Tryz.isAgg48⟩
instance : Siz Tryz.prog 48 1 := ⟨Tryz.sizeOf48⟩
instance : Byt Tryz.prog 48 24 := ⟨_, Tryz.type48, rfl⟩
instance : Zer Tryz.prog 48 (.slice none 0 0) := ⟨Tryz.zeroValue48⟩
instance : Agg Tryz.prog 50 true := ⟨Tryz.isAgg50⟩
instance : Siz Tryz.prog 50 6 := ⟨Tryz.sizeOf50⟩
instance : Byt Tryz.prog 50 64 := ⟨_, Tryz.type50, rfl⟩
instance : Zer Tryz.prog 50 (.agg #[.int .i64 0, .int .u32 0, .int .u64 0, .int .u64 0, .int .u64 0, .slice none 0 0]) := ⟨Tryz.zeroValue50⟩
instance : Fld Tryz.prog 50 0 0 := ⟨_, _, Tryz.underlying50, rfl, rfl, fun w => ⟨_, Tryz.sizeOf45 w⟩⟩
instance : Fld Tryz.prog 50 1 1 := ⟨_, _, Tryz.underlying50, rfl, rfl, fun w => ⟨_, Tryz.sizeOf46 w⟩⟩
instance : Fld Tryz.prog 50 2 2 := ⟨_, _, Tryz.underlying50, rfl, rfl, fun w => ⟨_, Tryz.sizeOf47 w⟩⟩
instance : Fld Tryz.prog 50 3 3 := ⟨_, _, Tryz.underlying50, rfl, rfl, fun w => ⟨_, Tryz.sizeOf47 w⟩⟩
instance : Fld Tryz.prog 50 4 4 := ⟨_, _, Tryz.underlying50, rfl, rfl, fun w => ⟨_, Tryz.sizeOf47 w⟩⟩
instance : Fld Tryz.prog 50 5 5 := ⟨_, _, Tryz.underlying50, rfl, rfl, fun w => ⟨_, Tryz.sizeOf48 w⟩⟩
instance : Plc Tryz.prog 50 [(0, 1), (1, 1), (2, 1), (3, 1), (4, 1), (5, 1)] := ⟨_, Tryz.underlying50, fun w => by kernel_rfl⟩
instance : Und Tryz.prog 51 (.pointer 142) := ⟨Tryz.underlying51⟩
instance : Agg Tryz.prog 51 false := ⟨Tryz.isAgg51⟩
instance : Siz Tryz.prog 51 1 := ⟨Tryz.sizeOf51⟩
instance : Byt Tryz.prog 51 8 := ⟨_, Tryz.type51, rfl⟩
instance : Zer Tryz.prog 51 (.pointer none) := ⟨Tryz.zeroValue51⟩
instance : Agg Tryz.prog 52 false := ⟨Tryz.isAgg52⟩
instance : Siz Tryz.prog 52 1 := ⟨Tryz.sizeOf52⟩
instance : Byt Tryz.prog 52 0 := ⟨_, Tryz.type52, rfl⟩
instance : Agg Tryz.prog 56 true := ⟨Tryz.isAgg56⟩
instance : Siz Tryz.prog 56 4 := ⟨Tryz.sizeOf56⟩
instance : Byt Tryz.prog 56 48 := ⟨_, Tryz.type56, rfl⟩
instance : Zer Tryz.prog 56 (.agg #[.int .i64 0, .int .u32 0, .int .i64 0, .slice none 0 0]) := ⟨Tryz.zeroValue56⟩
instance : Fld Tryz.prog 56 0 0 := ⟨_, _, Tryz.underlying56, rfl, rfl, fun w => ⟨_, Tryz.sizeOf28 w⟩⟩
instance : Fld Tryz.prog 56 1 1 := ⟨_, _, Tryz.underlying56, rfl, rfl, fun w => ⟨_, Tryz.sizeOf46 w⟩⟩
instance : Fld Tryz.prog 56 2 2 := ⟨_, _, Tryz.underlying56, rfl, rfl, fun w => ⟨_, Tryz.sizeOf3 w⟩⟩
instance : Fld Tryz.prog 56 3 3 := ⟨_, _, Tryz.underlying56, rfl, rfl, fun w => ⟨_, Tryz.sizeOf48 w⟩⟩
instance : Plc Tryz.prog 56 [(0, 1), (1, 1), (2, 1), (3, 1)] := ⟨_, Tryz.underlying56, fun w => by kernel_rfl⟩
instance : Agg Tryz.prog 58 true := ⟨Tryz.isAgg58⟩
instance : Siz Tryz.prog 58 11 := ⟨Tryz.sizeOf58⟩
instance : Byt Tryz.prog 58 120 := ⟨_, Tryz.type58, rfl⟩
instance : Zer Tryz.prog 58 (.agg #[.int .i64 0, .int .u32 0, .int .u64 0, .int .u64 0, .int .u64 0, .slice none 0 0, .int .i64 0, .int .u32 0, .int .i64 0, .slice none 0 0, .bool false]) := ⟨Tryz.zeroValue58⟩
instance : Fld Tryz.prog 58 0 0 := ⟨_, _, Tryz.underlying58, rfl, rfl, fun w => ⟨_, Tryz.sizeOf50 w⟩⟩
instance : Fld Tryz.prog 58 1 6 := ⟨_, _, Tryz.underlying58, rfl, rfl, fun w => ⟨_, Tryz.sizeOf56 w⟩⟩
instance : Fld Tryz.prog 58 2 10 := ⟨_, _, Tryz.underlying58, rfl, rfl, fun w => ⟨_, Tryz.sizeOf4 w⟩⟩
instance : Plc Tryz.prog 58 [(0, 6), (6, 4), (10, 1)] := ⟨_, Tryz.underlying58, fun w => by kernel_rfl⟩
instance : Und Tryz.prog 61 (.slice 56) := ⟨Tryz.underlying61⟩
instance : Agg Tryz.prog 61 false := ⟨Tryz.isAgg61⟩
instance : Siz Tryz.prog 61 1 := ⟨Tryz.sizeOf61⟩
instance : Byt Tryz.prog 61 24 := ⟨_, Tryz.type61, rfl⟩
instance : Zer Tryz.prog 61 (.slice none 0 0) := ⟨Tryz.zeroValue61⟩
instance : Und Tryz.prog 62 (.slice 65) := ⟨Tryz.underlying62⟩
instance : Agg Tryz.prog 62 false := ⟨Tryz.isAgg62⟩
instance : Siz Tryz.prog 62 1 := ⟨Tryz.sizeOf62⟩
instance : Byt Tryz.prog 62 24 := ⟨_, Tryz.type62, rfl⟩
instance : Zer Tryz.prog 62 (.slice none 0 0) := ⟨Tryz.zeroValue62⟩
instance : Agg Tryz.prog 65 true := ⟨Tryz.isAgg65⟩
instance : Siz Tryz.prog 65 3 := ⟨Tryz.sizeOf65⟩
instance : Byt Tryz.prog 65 24 := ⟨_, Tryz.type65, rfl⟩
instance : Zer Tryz.prog 65 (.agg #[.int .u32 0, .int .i64 0, .int .i64 0]) := ⟨Tryz.zeroValue65⟩
instance : Fld Tryz.prog 65 0 0 := ⟨_, _, Tryz.underlying65, rfl, rfl, fun w => ⟨_, Tryz.sizeOf46 w⟩⟩
instance : Fld Tryz.prog 65 1 1 := ⟨_, _, Tryz.underlying65, rfl, rfl, fun w => ⟨_, Tryz.sizeOf3 w⟩⟩
instance : Fld Tryz.prog 65 2 2 := ⟨_, _, Tryz.underlying65, rfl, rfl, fun w => ⟨_, Tryz.sizeOf3 w⟩⟩
instance : Plc Tryz.prog 65 [(0, 1), (1, 1), (2, 1)] := ⟨_, Tryz.underlying65, fun w => by kernel_rfl⟩
instance : Agg Tryz.prog 66 false := ⟨Tryz.isAgg66⟩
instance : Siz Tryz.prog 66 1 := ⟨Tryz.sizeOf66⟩
instance : Byt Tryz.prog 66 0 := ⟨_, Tryz.type66, rfl⟩
instance : Und Tryz.prog 69 (.array 2 58) := ⟨Tryz.underlying69⟩
instance : Agg Tryz.prog 69 true := ⟨Tryz.isAgg69⟩
instance : Siz Tryz.prog 69 22 := ⟨Tryz.sizeOf69⟩
instance : Byt Tryz.prog 69 240 := ⟨_, Tryz.type69, rfl⟩
instance : Zer Tryz.prog 69 (.agg #[.int .i64 0, .int .u32 0, .int .u64 0, .int .u64 0, .int .u64 0, .slice none 0 0, .int .i64 0, .int .u32 0, .int .i64 0, .slice none 0 0, .bool false, .int .i64 0, .int .u32 0, .int .u64 0, .int .u64 0, .int .u64 0, .slice none 0 0, .int .i64 0, .int .u32 0, .int .i64 0, .slice none 0 0, .bool false]) := ⟨Tryz.zeroValue69⟩
instance : Und Tryz.prog 70 (.slice 159) := ⟨Tryz.underlying70⟩
instance : Agg Tryz.prog 70 false := ⟨Tryz.isAgg70⟩
instance : Siz Tryz.prog 70 1 := ⟨Tryz.sizeOf70⟩
instance : Byt Tryz.prog 70 24 := ⟨_, Tryz.type70, rfl⟩
instance : Zer Tryz.prog 70 (.slice none 0 0) := ⟨Tryz.zeroValue70⟩
instance : Agg Tryz.prog 72 true := ⟨Tryz.isAgg72⟩
instance : Siz Tryz.prog 72 3 := ⟨Tryz.sizeOf72⟩
instance : Byt Tryz.prog 72 40 := ⟨_, Tryz.type72, rfl⟩
instance : Zer Tryz.prog 72 (.agg #[.int .i64 0, .int .i64 0, .slice none 0 0]) := ⟨Tryz.zeroValue72⟩
instance : Fld Tryz.prog 72 0 0 := ⟨_, _, Tryz.underlying72, rfl, rfl, fun w => ⟨_, Tryz.sizeOf3 w⟩⟩
instance : Fld Tryz.prog 72 1 1 := ⟨_, _, Tryz.underlying72, rfl, rfl, fun w => ⟨_, Tryz.sizeOf3 w⟩⟩
instance : Fld Tryz.prog 72 2 2 := ⟨_, _, Tryz.underlying72, rfl, rfl, fun w => ⟨_, Tryz.sizeOf70 w⟩⟩
instance : Plc Tryz.prog 72 [(0, 1), (1, 1), (2, 1)] := ⟨_, Tryz.underlying72, fun w => by kernel_rfl⟩
instance : Agg Tryz.prog 73 false := ⟨Tryz.isAgg73⟩
instance : Siz Tryz.prog 73 1 := ⟨Tryz.sizeOf73⟩
instance : Byt Tryz.prog 73 0 := ⟨_, Tryz.type73, rfl⟩
instance : Und Tryz.prog 80 (.slice 167) := ⟨Tryz.underlying80⟩
instance : Agg Tryz.prog 80 false := ⟨Tryz.isAgg80⟩
instance : Siz Tryz.prog 80 1 := ⟨Tryz.sizeOf80⟩
instance : Byt Tryz.prog 80 24 := ⟨_, Tryz.type80, rfl⟩
instance : Zer Tryz.prog 80 (.slice none 0 0) := ⟨Tryz.zeroValue80⟩
instance : Agg Tryz.prog 82 false := ⟨Tryz.isAgg82⟩
instance : Siz Tryz.prog 82 1 := ⟨Tryz.sizeOf82⟩
instance : Byt Tryz.prog 82 0 := ⟨_, Tryz.type82, rfl⟩
instance : Und Tryz.prog 84 (.slice 103) := ⟨Tryz.underlying84⟩
instance : Agg Tryz.prog 84 false := ⟨Tryz.isAgg84⟩
instance : Siz Tryz.prog 84 1 := ⟨Tryz.sizeOf84⟩
instance : Byt Tryz.prog 84 24 := ⟨_, Tryz.type84, rfl⟩
instance : Zer Tryz.prog 84 (.slice none 0 0) := ⟨Tryz.zeroValue84⟩
instance : Agg Tryz.prog 85 false := ⟨Tryz.isAgg85⟩
instance : Siz Tryz.prog 85 1 := ⟨Tryz.sizeOf85⟩
instance : Byt Tryz.prog 85 0 := ⟨_, Tryz.type85, rfl⟩
instance : Agg Tryz.prog 87 false := ⟨Tryz.isAgg87⟩
instance : Siz Tryz.prog 87 1 := ⟨Tryz.sizeOf87⟩
instance : Byt Tryz.prog 87 0 := ⟨_, Tryz.type87, rfl⟩
instance : Agg Tryz.prog 89 false := ⟨Tryz.isAgg89⟩
instance : Siz Tryz.prog 89 1 := ⟨Tryz.sizeOf89⟩
instance : Byt Tryz.prog 89 0 := ⟨_, Tryz.type89, rfl⟩
instance : Agg Tryz.prog 91 false := ⟨Tryz.isAgg91⟩
instance : Siz Tryz.prog 91 1 := ⟨Tryz.sizeOf91⟩
instance : Byt Tryz.prog 91 0 := ⟨_, Tryz.type91, rfl⟩
instance : Agg Tryz.prog 96 false := ⟨Tryz.isAgg96⟩
instance : Siz Tryz.prog 96 1 := ⟨Tryz.sizeOf96⟩
instance : Byt Tryz.prog 96 0 := ⟨_, Tryz.type96, rfl⟩
instance : Agg Tryz.prog 99 false := ⟨Tryz.isAgg99⟩
instance : Siz Tryz.prog 99 1 := ⟨Tryz.sizeOf99⟩
instance : Byt Tryz.prog 99 0 := ⟨_, Tryz.type99, rfl⟩
instance : Agg Tryz.prog 103 true := ⟨Tryz.isAgg103⟩
instance : Siz Tryz.prog 103 13 := ⟨Tryz.sizeOf103⟩
instance : Byt Tryz.prog 103 136 := ⟨_, Tryz.type103, rfl⟩
instance : Zer Tryz.prog 103 (.agg #[.int .i64 0, .int .i64 0, .int .u32 0, .int .u64 0, .int .u64 0, .int .u64 0, .slice none 0 0, .int .i64 0, .int .u32 0, .int .i64 0, .slice none 0 0, .int .i64 0, .int .i64 0]) := ⟨Tryz.zeroValue103⟩
instance : Fld Tryz.prog 103 0 0 := ⟨_, _, Tryz.underlying103, rfl, rfl, fun w => ⟨_, Tryz.sizeOf3 w⟩⟩
instance : Fld Tryz.prog 103 1 1 := ⟨_, _, Tryz.underlying103, rfl, rfl, fun w => ⟨_, Tryz.sizeOf50 w⟩⟩
instance : Fld Tryz.prog 103 2 7 := ⟨_, _, Tryz.underlying103, rfl, rfl, fun w => ⟨_, Tryz.sizeOf56 w⟩⟩
instance : Fld Tryz.prog 103 3 11 := ⟨_, _, Tryz.underlying103, rfl, rfl, fun w => ⟨_, Tryz.sizeOf3 w⟩⟩
instance : Fld Tryz.prog 103 4 12 := ⟨_, _, Tryz.underlying103, rfl, rfl, fun w => ⟨_, Tryz.sizeOf3 w⟩⟩
instance : Plc Tryz.prog 103 [(0, 1), (1, 6), (7, 4), (11, 1), (12, 1)] := ⟨_, Tryz.underlying103, fun w => by kernel_rfl⟩
instance : Und Tryz.prog 106 (.int .i64) := ⟨Tryz.underlying106⟩
instance : Agg Tryz.prog 106 false := ⟨Tryz.isAgg106⟩
instance : Siz Tryz.prog 106 1 := ⟨Tryz.sizeOf106⟩
instance : Byt Tryz.prog 106 8 := ⟨_, Tryz.type106, rfl⟩
instance : Zer Tryz.prog 106 (.int .i64 0) := ⟨Tryz.zeroValue106⟩
instance : Agg Tryz.prog 108 true := ⟨Tryz.isAgg108⟩
instance : Siz Tryz.prog 108 13 := ⟨Tryz.sizeOf108⟩
instance : Byt Tryz.prog 108 136 := ⟨_, Tryz.type108, rfl⟩
instance : Zer Tryz.prog 108 (.agg #[.int .i64 0, .int .i64 0, .int .i64 0, .int .i64 0, .int .i64 0, .int .i64 0, .int .i64 0, .int .u32 0, .int .u64 0, .int .u64 0, .int .u64 0, .slice none 0 0, .slice none 0 0]) := ⟨Tryz.zeroValue108⟩
instance : Fld Tryz.prog 108 0 0 := ⟨_, _, Tryz.underlying108, rfl, rfl, fun w => ⟨_, Tryz.sizeOf106 w⟩⟩
instance : Fld Tryz.prog 108 1 1 := ⟨_, _, Tryz.underlying108, rfl, rfl, fun w => ⟨_, Tryz.sizeOf3 w⟩⟩
instance : Fld Tryz.prog 108 2 2 := ⟨_, _, Tryz.underlying108, rfl, rfl, fun w => ⟨_, Tryz.sizeOf3 w⟩⟩
instance : Fld Tryz.prog 108 3 3 := ⟨_, _, Tryz.underlying108, rfl, rfl, fun w => ⟨_, Tryz.sizeOf3 w⟩⟩
instance : Fld Tryz.prog 108 4 4 := ⟨_, _, Tryz.underlying108, rfl, rfl, fun w => ⟨_, Tryz.sizeOf32 w⟩⟩
instance : Fld Tryz.prog 108 5 6 := ⟨_, _, Tryz.underlying108, rfl, rfl, fun w => ⟨_, Tryz.sizeOf50 w⟩⟩
instance : Fld Tryz.prog 108 6 12 := ⟨_, _, Tryz.underlying108, rfl, rfl, fun w => ⟨_, Tryz.sizeOf48 w⟩⟩
instance : Plc Tryz.prog 108 [(0, 1), (1, 1), (2, 1), (3, 1), (4, 2), (6, 6), (12, 1)] := ⟨_, Tryz.underlying108, fun w => by kernel_rfl⟩
instance : Und Tryz.prog 109 (.int .i64) := ⟨Tryz.underlying109⟩
instance : Agg Tryz.prog 109 false := ⟨Tryz.isAgg109⟩
instance : Siz Tryz.prog 109 1 := ⟨Tryz.sizeOf109⟩
instance : Byt Tryz.prog 109 8 := ⟨_, Tryz.type109, rfl⟩
instance : Zer Tryz.prog 109 (.int .i64 0) := ⟨Tryz.zeroValue109⟩
instance : Agg Tryz.prog 111 true := ⟨Tryz.isAgg111⟩
instance : Siz Tryz.prog 111 7 := ⟨Tryz.sizeOf111⟩
instance : Byt Tryz.prog 111 72 := ⟨_, Tryz.type111, rfl⟩
instance : Zer Tryz.prog 111 (.agg #[.int .i64 0, .int .i64 0, .bool false, .int .i64 0, .int .u32 0, .int .i64 0, .slice none 0 0]) := ⟨Tryz.zeroValue111⟩
instance : Fld Tryz.prog 111 0 0 := ⟨_, _, Tryz.underlying111, rfl, rfl, fun w => ⟨_, Tryz.sizeOf109 w⟩⟩
instance : Fld Tryz.prog 111 1 1 := ⟨_, _, Tryz.underlying111, rfl, rfl, fun w => ⟨_, Tryz.sizeOf3 w⟩⟩
instance : Fld Tryz.prog 111 2 2 := ⟨_, _, Tryz.underlying111, rfl, rfl, fun w => ⟨_, Tryz.sizeOf4 w⟩⟩
instance : Fld Tryz.prog 111 3 3 := ⟨_, _, Tryz.underlying111, rfl, rfl, fun w => ⟨_, Tryz.sizeOf56 w⟩⟩
instance : Plc Tryz.prog 111 [(0, 1), (1, 1), (2, 1), (3, 4)] := ⟨_, Tryz.underlying111, fun w => by kernel_rfl⟩
instance : Agg Tryz.prog 113 true := ⟨Tryz.isAgg113⟩
instance : Siz Tryz.prog 113 11 := ⟨Tryz.sizeOf113⟩
instance : Byt Tryz.prog 113 104 := ⟨_, Tryz.type113, rfl⟩
instance : Zer Tryz.prog 113 (.agg #[.int .i64 0, .int .i64 0, .int .i64 0, .int .i64 0, .int .i64 0, .int .i64 0, .bool false, .int .i64 0, .int .u32 0, .int .i64 0, .slice none 0 0]) := ⟨Tryz.zeroValue113⟩
instance : Fld Tryz.prog 113 0 0 := ⟨_, _, Tryz.underlying113, rfl, rfl, fun w => ⟨_, Tryz.sizeOf28 w⟩⟩
instance : Fld Tryz.prog 113 1 1 := ⟨_, _, Tryz.underlying113, rfl, rfl, fun w => ⟨_, Tryz.sizeOf32 w⟩⟩
instance : Fld Tryz.prog 113 2 3 := ⟨_, _, Tryz.underlying113, rfl, rfl, fun w => ⟨_, Tryz.sizeOf3 w⟩⟩
instance : Fld Tryz.prog 113 3 4 := ⟨_, _, Tryz.underlying113, rfl, rfl, fun w => ⟨_, Tryz.sizeOf111 w⟩⟩
instance : Plc Tryz.prog 113 [(0, 1), (1, 2), (3, 1), (4, 7)] := ⟨_, Tryz.underlying113, fun w => by kernel_rfl⟩
instance : Und Tryz.prog 114 (.slice 132) := ⟨Tryz.underlying114⟩
instance : Agg Tryz.prog 114 false := ⟨Tryz.isAgg114⟩
instance : Siz Tryz.prog 114 1 := ⟨Tryz.sizeOf114⟩
instance : Byt Tryz.prog 114 24 := ⟨_, Tryz.type114, rfl⟩
instance : Zer Tryz.prog 114 (.slice none 0 0) := ⟨Tryz.zeroValue114⟩
instance : Und Tryz.prog 115 (.slice 132) := ⟨Tryz.underlying115⟩
instance : Agg Tryz.prog 115 false := ⟨Tryz.isAgg115⟩
instance : Siz Tryz.prog 115 1 := ⟨Tryz.sizeOf115⟩
instance : Byt Tryz.prog 115 24 := ⟨_, Tryz.type115, rfl⟩
instance : Zer Tryz.prog 115 (.slice none 0 0) := ⟨Tryz.zeroValue115⟩
instance : Agg Tryz.prog 116 false := ⟨Tryz.isAgg116⟩
instance : Siz Tryz.prog 116 1 := ⟨Tryz.sizeOf116⟩
instance : Byt Tryz.prog 116 0 := ⟨_, Tryz.type116, rfl⟩
instance : Agg Tryz.prog 118 false := ⟨Tryz.isAgg118⟩
instance : Siz Tryz.prog 118 1 := ⟨Tryz.sizeOf118⟩
instance : Byt Tryz.prog 118 0 := ⟨_, Tryz.type118, rfl⟩
instance : Und Tryz.prog 120 (.slice 123) := ⟨Tryz.underlying120⟩
instance : Agg Tryz.prog 120 false := ⟨Tryz.isAgg120⟩
instance : Siz Tryz.prog 120 1 := ⟨Tryz.sizeOf120⟩
instance : Byt Tryz.prog 120 24 := ⟨_, Tryz.type120, rfl⟩
instance : Zer Tryz.prog 120 (.slice none 0 0) := ⟨Tryz.zeroValue120⟩
instance : Agg Tryz.prog 123 true := ⟨Tryz.isAgg123⟩
instance : Siz Tryz.prog 123 13 := ⟨Tryz.sizeOf123⟩
instance : Byt Tryz.prog 123 136 := ⟨_, Tryz.type123, rfl⟩
instance : Zer Tryz.prog 123 (.agg #[.int .i64 0, .int .u32 0, .int .u64 0, .int .u64 0, .int .u64 0, .slice none 0 0, .int .i64 0, .bool false, .int .i64 0, .int .u32 0, .int .i64 0, .slice none 0 0, .int .i64 0]) := ⟨Tryz.zeroValue123⟩
instance : Fld Tryz.prog 123 0 0 := ⟨_, _, Tryz.underlying123, rfl, rfl, fun w => ⟨_, Tryz.sizeOf50 w⟩⟩
instance : Fld Tryz.prog 123 1 6 := ⟨_, _, Tryz.underlying123, rfl, rfl, fun w => ⟨_, Tryz.sizeOf3 w⟩⟩
instance : Fld Tryz.prog 123 2 7 := ⟨_, _, Tryz.underlying123, rfl, rfl, fun w => ⟨_, Tryz.sizeOf4 w⟩⟩
instance : Fld Tryz.prog 123 3 8 := ⟨_, _, Tryz.underlying123, rfl, rfl, fun w => ⟨_, Tryz.sizeOf56 w⟩⟩
instance : Fld Tryz.prog 123 4 12 := ⟨_, _, Tryz.underlying123, rfl, rfl, fun w => ⟨_, Tryz.sizeOf3 w⟩⟩
instance : Plc Tryz.prog 123 [(0, 6), (6, 1), (7, 1), (8, 4), (12, 1)] := ⟨_, Tryz.underlying123, fun w => by kernel_rfl⟩
instance : Agg Tryz.prog 125 false := ⟨Tryz.isAgg125⟩
instance : Siz Tryz.prog 125 1 := ⟨Tryz.sizeOf125⟩
instance : Byt Tryz.prog 125 8 := ⟨_, Tryz.type125, rfl⟩
instance : Zer Tryz.prog 125 (.nilFunc) := ⟨Tryz.zeroValue125⟩
instance : Agg Tryz.prog 127 false := ⟨Tryz.isAgg127⟩
instance : Siz Tryz.prog 127 1 := ⟨Tryz.sizeOf127⟩
instance : Byt Tryz.prog 127 8 := ⟨_, Tryz.type127, rfl⟩
instance : Zer Tryz.prog 127 (.nilFunc) := ⟨Tryz.zeroValue127⟩
instance : Agg Tryz.prog 128 false := ⟨Tryz.isAgg128⟩
instance : Siz Tryz.prog 128 1 := ⟨Tryz.sizeOf128⟩
instance : Byt Tryz.prog 128 0 := ⟨_, Tryz.type128, rfl⟩
instance : Und Tryz.prog 130 (.map 3 32) := ⟨Tryz.underlying130⟩
instance : Agg Tryz.prog 130 false := ⟨Tryz.isAgg130⟩
instance : Siz Tryz.prog 130 1 := ⟨Tryz.sizeOf130⟩
instance : Byt Tryz.prog 130 8 := ⟨_, Tryz.type130, rfl⟩
instance : Zer Tryz.prog 130 (.map none) := ⟨Tryz.zeroValue130⟩
instance : Agg Tryz.prog 132 true := ⟨Tryz.isAgg132⟩
instance : Siz Tryz.prog 132 26 := ⟨Tryz.sizeOf132⟩
instance : Byt Tryz.prog 132 256 := ⟨_, Tryz.type132, rfl⟩
instance : Zer Tryz.prog 132 (.agg #[.int .i64 0, .int .i64 0, .int .i64 0, .int .i64 0, .int .i64 0, .int .i64 0, .int .i64 0, .int .u32 0, .int .u64 0, .int .u64 0, .int .u64 0, .slice none 0 0, .slice none 0 0, .int .i64 0, .int .i64 0, .int .i64 0, .int .i64 0, .int .i64 0, .int .i64 0, .bool false, .int .i64 0, .int .u32 0, .int .i64 0, .slice none 0 0, .int .i64 0, .map none]) := ⟨Tryz.zeroValue132⟩
instance : Fld Tryz.prog 132 0 0 := ⟨_, _, Tryz.underlying132, rfl, rfl, fun w => ⟨_, Tryz.sizeOf108 w⟩⟩
instance : Fld Tryz.prog 132 1 13 := ⟨_, _, Tryz.underlying132, rfl, rfl, fun w => ⟨_, Tryz.sizeOf113 w⟩⟩
instance : Fld Tryz.prog 132 2 24 := ⟨_, _, Tryz.underlying132, rfl, rfl, fun w => ⟨_, Tryz.sizeOf3 w⟩⟩
instance : Fld Tryz.prog 132 3 25 := ⟨_, _, Tryz.underlying132, rfl, rfl, fun w => ⟨_, Tryz.sizeOf130 w⟩⟩
instance : Plc Tryz.prog 132 [(0, 13), (13, 11), (24, 1), (25, 1)] := ⟨_, Tryz.underlying132, fun w => by kernel_rfl⟩
instance : Agg Tryz.prog 134 false := ⟨Tryz.isAgg134⟩
instance : Siz Tryz.prog 134 1 := ⟨Tryz.sizeOf134⟩
instance : Byt Tryz.prog 134 8 := ⟨_, Tryz.type134, rfl⟩
instance : Zer Tryz.prog 134 (.nilFunc) := ⟨Tryz.zeroValue134⟩
instance : Agg Tryz.prog 136 false := ⟨Tryz.isAgg136⟩
instance : Siz Tryz.prog 136 1 := ⟨Tryz.sizeOf136⟩
instance : Byt Tryz.prog 136 8 := ⟨_, Tryz.type136, rfl⟩
instance : Zer Tryz.prog 136 (.nilFunc) := ⟨Tryz.zeroValue136⟩
instance : Und Tryz.prog 140 (.map 46 152) := ⟨Tryz.underlying140⟩
instance : Agg Tryz.prog 140 false := ⟨Tryz.isAgg140⟩
instance : Siz Tryz.prog 140 1 := ⟨Tryz.sizeOf140⟩
instance : Byt Tryz.prog 140 8 := ⟨_, Tryz.type140, rfl⟩
instance : Zer Tryz.prog 140 (.map none) := ⟨Tryz.zeroValue140⟩
instance : Agg Tryz.prog 142 true := ⟨Tryz.isAgg142⟩
instance : Siz Tryz.prog 142 3 := ⟨Tryz.sizeOf142⟩
instance : Byt Tryz.prog 142 24 := ⟨_, Tryz.type142, rfl⟩
instance : Zer Tryz.prog 142 (.agg #[.int .i64 0, .int .i64 0, .map none]) := ⟨Tryz.zeroValue142⟩
instance : Fld Tryz.prog 142 0 0 := ⟨_, _, Tryz.underlying142, rfl, rfl, fun w => ⟨_, Tryz.sizeOf3 w⟩⟩
instance : Fld Tryz.prog 142 1 1 := ⟨_, _, Tryz.underlying142, rfl, rfl, fun w => ⟨_, Tryz.sizeOf3 w⟩⟩
instance : Fld Tryz.prog 142 2 2 := ⟨_, _, Tryz.underlying142, rfl, rfl, fun w => ⟨_, Tryz.sizeOf140 w⟩⟩
instance : Plc Tryz.prog 142 [(0, 1), (1, 1), (2, 1)] := ⟨_, Tryz.underlying142, fun w => by kernel_rfl⟩
instance : Agg Tryz.prog 144 false := ⟨Tryz.isAgg144⟩
instance : Siz Tryz.prog 144 1 := ⟨Tryz.sizeOf144⟩
instance : Byt Tryz.prog 144 0 := ⟨_, Tryz.type144, rfl⟩
instance : Und Tryz.prog 146 (.slice 46) := ⟨Tryz.underlying146⟩
instance : Agg Tryz.prog 146 false := ⟨Tryz.isAgg146⟩
instance : Siz Tryz.prog 146 1 := ⟨Tryz.sizeOf146⟩
instance : Byt Tryz.prog 146 24 := ⟨_, Tryz.type146, rfl⟩
instance : Zer Tryz.prog 146 (.slice none 0 0) := ⟨Tryz.zeroValue146⟩
instance : Agg Tryz.prog 149 false := ⟨Tryz.isAgg149⟩
instance : Siz Tryz.prog 149 1 := ⟨Tryz.sizeOf149⟩
instance : Byt Tryz.prog 149 8 := ⟨_, Tryz.type149, rfl⟩
instance : Zer Tryz.prog 149 (.nilFunc) := ⟨Tryz.zeroValue149⟩
instance : Agg Tryz.prog 152 true := ⟨Tryz.isAgg152⟩
instance : Siz Tryz.prog 152 4 := ⟨Tryz.sizeOf152⟩
instance : Byt Tryz.prog 152 48 := ⟨_, Tryz.type152, rfl⟩
instance : Zer Tryz.prog 152 (.agg #[.int .u32 0, .int .i64 0, .int .i64 0, .slice none 0 0]) := ⟨Tryz.zeroValue152⟩
instance : Fld Tryz.prog 152 0 0 := ⟨_, _, Tryz.underlying152, rfl, rfl, fun w => ⟨_, Tryz.sizeOf65 w⟩⟩
instance : Fld Tryz.prog 152 1 3 := ⟨_, _, Tryz.underlying152, rfl, rfl, fun w => ⟨_, Tryz.sizeOf35 w⟩⟩
instance : Plc Tryz.prog 152 [(0, 3), (3, 1)] := ⟨_, Tryz.underlying152, fun w => by kernel_rfl⟩
instance : Agg Tryz.prog 153 false := ⟨Tryz.isAgg153⟩
instance : Siz Tryz.prog 153 1 := ⟨Tryz.sizeOf153⟩
instance : Byt Tryz.prog 153 0 := ⟨_, Tryz.type153, rfl⟩
instance : Agg Tryz.prog 157 false := ⟨Tryz.isAgg157⟩
instance : Siz Tryz.prog 157 1 := ⟨Tryz.sizeOf157⟩
instance : Byt Tryz.prog 157 8 := ⟨_, Tryz.type157, rfl⟩
instance : Zer Tryz.prog 157 (.nilFunc) := ⟨Tryz.zeroValue157⟩
instance : Agg Tryz.prog 159 true := ⟨Tryz.isAgg159⟩
instance : Siz Tryz.prog 159 4 := ⟨Tryz.sizeOf159⟩
instance : Byt Tryz.prog 159 48 := ⟨_, Tryz.type159, rfl⟩
instance : Zer Tryz.prog 159 (.agg #[.int .u32 0, .int .i64 0, .int .i64 0, .slice none 0 0]) := ⟨Tryz.zeroValue159⟩
instance : Fld Tryz.prog 159 0 0 := ⟨_, _, Tryz.underlying159, rfl, rfl, fun w => ⟨_, Tryz.sizeOf46 w⟩⟩
instance : Fld Tryz.prog 159 1 1 := ⟨_, _, Tryz.underlying159, rfl, rfl, fun w => ⟨_, Tryz.sizeOf3 w⟩⟩
instance : Fld Tryz.prog 159 2 2 := ⟨_, _, Tryz.underlying159, rfl, rfl, fun w => ⟨_, Tryz.sizeOf3 w⟩⟩
instance : Fld Tryz.prog 159 3 3 := ⟨_, _, Tryz.underlying159, rfl, rfl, fun w => ⟨_, Tryz.sizeOf35 w⟩⟩
instance : Plc Tryz.prog 159 [(0, 1), (1, 1), (2, 1), (3, 1)] := ⟨_, Tryz.underlying159, fun w => by kernel_rfl⟩
instance : Agg Tryz.prog 161 false := ⟨Tryz.isAgg161⟩
instance : Siz Tryz.prog 161 1 := ⟨Tryz.sizeOf161⟩
instance : Byt Tryz.prog 161 8 := ⟨_, Tryz.type161, rfl⟩
instance : Zer Tryz.prog 161 (.nilFunc) := ⟨Tryz.zeroValue161⟩
instance : Agg Tryz.prog 165 false := ⟨Tryz.isAgg165⟩
instance : Siz Tryz.prog 165 1 := ⟨Tryz.sizeOf165⟩
instance : Byt Tryz.prog 165 8 := ⟨_, Tryz.type165, rfl⟩
instance : Zer Tryz.prog 165 (.nilFunc) := ⟨Tryz.zeroValue165⟩
instance : Agg Tryz.prog 167 true := ⟨Tryz.isAgg167⟩
instance : Siz Tryz.prog 167 24 := ⟨Tryz.sizeOf167⟩
instance : Byt Tryz.prog 167 240 := ⟨_, Tryz.type167, rfl⟩
instance : Zer Tryz.prog 167 (.agg #[.int .i64 0, .int .i64 0, .int .i64 0, .int .i64 0, .int .i64 0, .int .i64 0, .int .i64 0, .int .u32 0, .int .u64 0, .int .u64 0, .int .u64 0, .slice none 0 0, .slice none 0 0, .int .i64 0, .int .i64 0, .int .i64 0, .int .i64 0, .int .i64 0, .int .i64 0, .bool false, .int .i64 0, .int .u32 0, .int .i64 0, .slice none 0 0]) := ⟨Tryz.zeroValue167⟩
instance : Fld Tryz.prog 167 0 0 := ⟨_, _, Tryz.underlying167, rfl, rfl, fun w => ⟨_, Tryz.sizeOf108 w⟩⟩
instance : Fld Tryz.prog 167 1 13 := ⟨_, _, Tryz.underlying167, rfl, rfl, fun w => ⟨_, Tryz.sizeOf113 w⟩⟩
instance : Plc Tryz.prog 167 [(0, 13), (13, 11)] := ⟨_, Tryz.underlying167, fun w => by kernel_rfl⟩
instance : Und Tryz.prog 169 (.map 3 32) := ⟨Tryz.underlying169⟩
instance : Agg Tryz.prog 169 false := ⟨Tryz.isAgg169⟩
instance : Siz Tryz.prog 169 1 := ⟨Tryz.sizeOf169⟩
instance : Byt Tryz.prog 169 8 := ⟨_, Tryz.type169, rfl⟩
instance : Zer Tryz.prog 169 (.map none) := ⟨Tryz.zeroValue169⟩
instance : Und Tryz.prog 170 (.map 3 35) := ⟨Tryz.underlying170⟩
instance : Agg Tryz.prog 170 false := ⟨Tryz.isAgg170⟩
instance : Siz Tryz.prog 170 1 := ⟨Tryz.sizeOf170⟩
instance : Byt Tryz.prog 170 8 := ⟨_, Tryz.type170, rfl⟩
instance : Zer Tryz.prog 170 (.map none) := ⟨Tryz.zeroValue170⟩
instance : Agg Tryz.prog 174 false := ⟨Tryz.isAgg174⟩
instance : Siz Tryz.prog 174 1 := ⟨Tryz.sizeOf174⟩
instance : Byt Tryz.prog 174 0 := ⟨_, Tryz.type174, rfl⟩
instance : Und Tryz.prog 176 (.slice 179) := ⟨Tryz.underlying176⟩
instance : Agg Tryz.prog 176 false := ⟨Tryz.isAgg176⟩
instance : Siz Tryz.prog 176 1 := ⟨Tryz.sizeOf176⟩
instance : Byt Tryz.prog 176 24 := ⟨_, Tryz.type176, rfl⟩
instance : Zer Tryz.prog 176 (.slice none 0 0) := ⟨Tryz.zeroValue176⟩
instance : Agg Tryz.prog 178 false := ⟨Tryz.isAgg178⟩
instance : Siz Tryz.prog 178 1 := ⟨Tryz.sizeOf178⟩
instance : Byt Tryz.prog 178 8 := ⟨_, Tryz.type178, rfl⟩
instance : Zer Tryz.prog 178 (.nilFunc) := ⟨Tryz.zeroValue178⟩
instance : Und Tryz.prog 179 (.array 4 32) := ⟨Tryz.underlying179⟩
instance : Agg Tryz.prog 179 true := ⟨Tryz.isAgg179⟩
instance : Siz Tryz.prog 179 8 := ⟨Tryz.sizeOf179⟩
instance : Byt Tryz.prog 179 64 := ⟨_, Tryz.type179, rfl⟩
instance : Zer Tryz.prog 179 (.agg #[.int .i64 0, .int .i64 0, .int .i64 0, .int .i64 0, .int .i64 0, .int .i64 0, .int .i64 0, .int .i64 0]) := ⟨Tryz.zeroValue179⟩
instance : Und Tryz.prog 182 (.pointer 189) := ⟨Tryz.underlying182⟩
instance : Agg Tryz.prog 182 false := ⟨Tryz.isAgg182⟩
instance : Siz Tryz.prog 182 1 := ⟨Tryz.sizeOf182⟩
instance : Byt Tryz.prog 182 8 := ⟨_, Tryz.type182, rfl⟩
instance : Zer Tryz.prog 182 (.pointer none) := ⟨Tryz.zeroValue182⟩
instance : Agg Tryz.prog 183 false := ⟨Tryz.isAgg183⟩
instance : Siz Tryz.prog 183 1 := ⟨Tryz.sizeOf183⟩
instance : Byt Tryz.prog 183 0 := ⟨_, Tryz.type183, rfl⟩
instance : Und Tryz.prog 185 (.map 3 193) := ⟨Tryz.underlying185⟩
instance : Agg Tryz.prog 185 false := ⟨Tryz.isAgg185⟩
instance : Siz Tryz.prog 185 1 := ⟨Tryz.sizeOf185⟩
instance : Byt Tryz.prog 185 8 := ⟨_, Tryz.type185, rfl⟩
instance : Zer Tryz.prog 185 (.map none) := ⟨Tryz.zeroValue185⟩
instance : Und Tryz.prog 186 (.slice 103) := ⟨Tryz.underlying186⟩
instance : Agg Tryz.prog 186 false := ⟨Tryz.isAgg186⟩
instance : Siz Tryz.prog 186 1 := ⟨Tryz.sizeOf186⟩
instance : Byt Tryz.prog 186 24 := ⟨_, Tryz.type186, rfl⟩
instance : Zer Tryz.prog 186 (.slice none 0 0) := ⟨Tryz.zeroValue186⟩
instance : Und Tryz.prog 187 (.map 3 4) := ⟨Tryz.underlying187⟩
instance : Agg Tryz.prog 187 false := ⟨Tryz.isAgg187⟩
instance : Siz Tryz.prog 187 1 := ⟨Tryz.sizeOf187⟩
instance : Byt Tryz.prog 187 8 := ⟨_, Tryz.type187, rfl⟩
instance : Zer Tryz.prog 187 (.map none) := ⟨Tryz.zeroValue187⟩
instance : Agg Tryz.prog 189 true := ⟨Tryz.isAgg189⟩
instance : Siz Tryz.prog 189 3 := ⟨Tryz.sizeOf189⟩
instance : Byt Tryz.prog 189 56 := ⟨_, Tryz.type189, rfl⟩
instance : Zer Tryz.prog 189 (.agg #[.slice none 0 0, .map none, .slice none 0 0]) := ⟨Tryz.zeroValue189⟩
instance : Fld Tryz.prog 189 0 0 := ⟨_, _, Tryz.underlying189, rfl, rfl, fun w => ⟨_, Tryz.sizeOf186 w⟩⟩
instance : Fld Tryz.prog 189 1 1 := ⟨_, _, Tryz.underlying189, rfl, rfl, fun w => ⟨_, Tryz.sizeOf187 w⟩⟩
instance : Fld Tryz.prog 189 2 2 := ⟨_, _, Tryz.underlying189, rfl, rfl, fun w => ⟨_, Tryz.sizeOf35 w⟩⟩
instance : Plc Tryz.prog 189 [(0, 1), (1, 1), (2, 1)] := ⟨_, Tryz.underlying189, fun w => by kernel_rfl⟩
instance : Agg Tryz.prog 190 false := ⟨Tryz.isAgg190⟩
instance : Siz Tryz.prog 190 1 := ⟨Tryz.sizeOf190⟩
instance : Byt Tryz.prog 190 8 := ⟨_, Tryz.type190, rfl⟩
instance : Zer Tryz.prog 190 (.nilFunc) := ⟨Tryz.zeroValue190⟩
instance : Und Tryz.prog 193 (.slice 51) := ⟨Tryz.underlying193⟩
instance : Agg Tryz.prog 193 false := ⟨Tryz.isAgg193⟩
instance : Siz Tryz.prog 193 1 := ⟨Tryz.sizeOf193⟩
instance : Byt Tryz.prog 193 24 := ⟨_, Tryz.type193, rfl⟩
instance : Zer Tryz.prog 193 (.slice none 0 0) := ⟨Tryz.zeroValue193⟩
instance : Agg Tryz.prog 197 false := ⟨Tryz.isAgg197⟩
instance : Siz Tryz.prog 197 1 := ⟨Tryz.sizeOf197⟩
instance : Byt Tryz.prog 197 8 := ⟨_, Tryz.type197, rfl⟩
instance : Zer Tryz.prog 197 (.nilFunc) := ⟨Tryz.zeroValue197⟩
instance : Und Tryz.prog 203 (.map 106 205) := ⟨Tryz.underlying203⟩
instance : Agg Tryz.prog 203 false := ⟨Tryz.isAgg203⟩
instance : Siz Tryz.prog 203 1 := ⟨Tryz.sizeOf203⟩
instance : Byt Tryz.prog 203 8 := ⟨_, Tryz.type203, rfl⟩
instance : Zer Tryz.prog 203 (.map none) := ⟨Tryz.zeroValue203⟩
instance : Agg Tryz.prog 205 false := ⟨Tryz.isAgg205⟩
instance : Siz Tryz.prog 205 1 := ⟨Tryz.sizeOf205⟩
instance : Byt Tryz.prog 205 8 := ⟨_, Tryz.type205, rfl⟩
instance : Zer Tryz.prog 205 (.nilFunc) := ⟨Tryz.zeroValue205⟩
instance : Agg Tryz.prog 207 false := ⟨Tryz.isAgg207⟩
instance : Siz Tryz.prog 207 1 := ⟨Tryz.sizeOf207⟩
instance : Byt Tryz.prog 207 0 := ⟨_, Tryz.type207, rfl⟩
instance : Agg Tryz.prog 209 false := ⟨Tryz.isAgg209⟩
instance : Siz Tryz.prog 209 1 := ⟨Tryz.sizeOf209⟩
instance : Byt Tryz.prog 209 8 := ⟨_, Tryz.type209, rfl⟩
instance : Zer Tryz.prog 209 (.nilFunc) := ⟨Tryz.zeroValue209⟩
instance : Agg Tryz.prog 212 false := ⟨Tryz.isAgg212⟩
instance : Siz Tryz.prog 212 1 := ⟨Tryz.sizeOf212⟩
instance : Byt Tryz.prog 212 8 := ⟨_, Tryz.type212, rfl⟩
instance : Zer Tryz.prog 212 (.nilFunc) := ⟨Tryz.zeroValue212⟩
instance : Agg Tryz.prog 215 false := ⟨Tryz.isAgg215⟩
instance : Siz Tryz.prog 215 1 := ⟨Tryz.sizeOf215⟩
instance : Byt Tryz.prog 215 8 := ⟨_, Tryz.type215, rfl⟩
instance : Zer Tryz.prog 215 (.nilFunc) := ⟨Tryz.zeroValue215⟩
instance : Und Tryz.prog 216 (.int .i64) := ⟨Tryz.underlying216⟩
instance : Agg Tryz.prog 216 false := ⟨Tryz.isAgg216⟩
instance : Siz Tryz.prog 216 1 := ⟨Tryz.sizeOf216⟩
instance : Byt Tryz.prog 216 8 := ⟨_, Tryz.type216, rfl⟩
instance : Zer Tryz.prog 216 (.int .i64 0) := ⟨Tryz.zeroValue216⟩
instance : Agg Tryz.prog 218 true := ⟨Tryz.isAgg218⟩
instance : Siz Tryz.prog 218 1 := ⟨Tryz.sizeOf218⟩
instance : Byt Tryz.prog 218 8 := ⟨_, Tryz.type218, rfl⟩
instance : Zer Tryz.prog 218 (.agg #[.int .i64 0]) := ⟨Tryz.zeroValue218⟩
instance : Fld Tryz.prog 218 0 0 := ⟨_, _, Tryz.underlying218, rfl, rfl, fun w => ⟨_, Tryz.sizeOf216 w⟩⟩
instance : Plc Tryz.prog 218 [(0, 1)] := ⟨_, Tryz.underlying218, fun w => by kernel_rfl⟩
instance : Agg Tryz.prog 219 false := ⟨Tryz.isAgg219⟩
instance : Siz Tryz.prog 219 1 := ⟨Tryz.sizeOf219⟩
instance : Byt Tryz.prog 219 8 := ⟨_, Tryz.type219, rfl⟩
instance : Zer Tryz.prog 219 (.nilFunc) := ⟨Tryz.zeroValue219⟩
instance : Und Tryz.prog 221 (.map 45 219) := ⟨Tryz.underlying221⟩
instance : Agg Tryz.prog 221 false := ⟨Tryz.isAgg221⟩
instance : Siz Tryz.prog 221 1 := ⟨Tryz.sizeOf221⟩
instance : Byt Tryz.prog 221 8 := ⟨_, Tryz.type221, rfl⟩
instance : Zer Tryz.prog 221 (.map none) := ⟨Tryz.zeroValue221⟩
instance : Agg Tryz.prog 223 false := ⟨Tryz.isAgg223⟩
instance : Siz Tryz.prog 223 1 := ⟨Tryz.sizeOf223⟩
instance : Byt Tryz.prog 223 0 := ⟨_, Tryz.type223, rfl⟩
instance : Agg Tryz.prog 225 false := ⟨Tryz.isAgg225⟩
instance : Siz Tryz.prog 225 1 := ⟨Tryz.sizeOf225⟩
instance : Byt Tryz.prog 225 8 := ⟨_, Tryz.type225, rfl⟩
instance : Zer Tryz.prog 225 (.nilFunc) := ⟨Tryz.zeroValue225⟩
instance : Agg Tryz.prog 228 false := ⟨Tryz.isAgg228⟩
instance : Siz Tryz.prog 228 1 := ⟨Tryz.sizeOf228⟩
instance : Byt Tryz.prog 228 8 := ⟨_, Tryz.type228, rfl⟩
instance : Zer Tryz.prog 228 (.nilFunc) := ⟨Tryz.zeroValue228⟩
instance : Agg Tryz.prog 230 false := ⟨Tryz.isAgg230⟩
instance : Siz Tryz.prog 230 1 := ⟨Tryz.sizeOf230⟩
instance : Byt Tryz.prog 230 8 := ⟨_, Tryz.type230, rfl⟩
instance : Zer Tryz.prog 230 (.nilFunc) := ⟨Tryz.zeroValue230⟩
instance : Agg Tryz.prog 232 true := ⟨Tryz.isAgg232⟩
instance : Siz Tryz.prog 232 4 := ⟨Tryz.sizeOf232⟩
instance : Byt Tryz.prog 232 32 := ⟨_, Tryz.type232, rfl⟩
instance : Zer Tryz.prog 232 (.agg #[.bool false, .int .i64 0, .int .i64 0, .int .i64 0]) := ⟨Tryz.zeroValue232⟩
instance : Fld Tryz.prog 232 0 0 := ⟨_, _, Tryz.underlying232, rfl, rfl, fun w => ⟨_, Tryz.sizeOf4 w⟩⟩
instance : Fld Tryz.prog 232 1 1 := ⟨_, _, Tryz.underlying232, rfl, rfl, fun w => ⟨_, Tryz.sizeOf3 w⟩⟩
instance : Fld Tryz.prog 232 2 2 := ⟨_, _, Tryz.underlying232, rfl, rfl, fun w => ⟨_, Tryz.sizeOf3 w⟩⟩
instance : Fld Tryz.prog 232 3 3 := ⟨_, _, Tryz.underlying232, rfl, rfl, fun w => ⟨_, Tryz.sizeOf3 w⟩⟩
instance : Plc Tryz.prog 232 [(0, 1), (1, 1), (2, 1), (3, 1)] := ⟨_, Tryz.underlying232, fun w => by kernel_rfl⟩
instance : Agg Tryz.prog 233 false := ⟨Tryz.isAgg233⟩
instance : Siz Tryz.prog 233 1 := ⟨Tryz.sizeOf233⟩
instance : Byt Tryz.prog 233 0 := ⟨_, Tryz.type233, rfl⟩
instance : Agg Tryz.prog 237 false := ⟨Tryz.isAgg237⟩
instance : Siz Tryz.prog 237 1 := ⟨Tryz.sizeOf237⟩
instance : Byt Tryz.prog 237 0 := ⟨_, Tryz.type237, rfl⟩
instance : Und Tryz.prog 245 (.slice 248) := ⟨Tryz.underlying245⟩
instance : Agg Tryz.prog 245 false := ⟨Tryz.isAgg245⟩
instance : Siz Tryz.prog 245 1 := ⟨Tryz.sizeOf245⟩
instance : Byt Tryz.prog 245 24 := ⟨_, Tryz.type245, rfl⟩
instance : Zer Tryz.prog 245 (.slice none 0 0) := ⟨Tryz.zeroValue245⟩
instance : Agg Tryz.prog 248 true := ⟨Tryz.isAgg248⟩
instance : Siz Tryz.prog 248 13 := ⟨Tryz.sizeOf248⟩
instance : Byt Tryz.prog 248 136 := ⟨_, Tryz.type248, rfl⟩
instance : Zer Tryz.prog 248 (.agg #[.int .i64 0, .int .u32 0, .int .u64 0, .int .u64 0, .int .u64 0, .slice none 0 0, .int .i64 0, .bool false, .int .i64 0, .int .u32 0, .int .i64 0, .slice none 0 0, .int .i64 0]) := ⟨Tryz.zeroValue248⟩
instance : Fld Tryz.prog 248 0 0 := ⟨_, _, Tryz.underlying248, rfl, rfl, fun w => ⟨_, Tryz.sizeOf50 w⟩⟩
instance : Fld Tryz.prog 248 1 6 := ⟨_, _, Tryz.underlying248, rfl, rfl, fun w => ⟨_, Tryz.sizeOf3 w⟩⟩
instance : Fld Tryz.prog 248 2 7 := ⟨_, _, Tryz.underlying248, rfl, rfl, fun w => ⟨_, Tryz.sizeOf4 w⟩⟩
instance : Fld Tryz.prog 248 3 8 := ⟨_, _, Tryz.underlying248, rfl, rfl, fun w => ⟨_, Tryz.sizeOf56 w⟩⟩
instance : Fld Tryz.prog 248 4 12 := ⟨_, _, Tryz.underlying248, rfl, rfl, fun w => ⟨_, Tryz.sizeOf3 w⟩⟩
instance : Plc Tryz.prog 248 [(0, 6), (6, 1), (7, 1), (8, 4), (12, 1)] := ⟨_, Tryz.underlying248, fun w => by kernel_rfl⟩
instance : Und Tryz.prog 254 (.slice 4) := ⟨Tryz.underlying254⟩
instance : Agg Tryz.prog 254 false := ⟨Tryz.isAgg254⟩
instance : Siz Tryz.prog 254 1 := ⟨Tryz.sizeOf254⟩
instance : Byt Tryz.prog 254 24 := ⟨_, Tryz.type254, rfl⟩
instance : Zer Tryz.prog 254 (.slice none 0 0) := ⟨Tryz.zeroValue254⟩
instance : Agg Tryz.prog 256 false := ⟨Tryz.isAgg256⟩
instance : Siz Tryz.prog 256 1 := ⟨Tryz.sizeOf256⟩
instance : Byt Tryz.prog 256 8 := ⟨_, Tryz.type256, rfl⟩
instance : Zer Tryz.prog 256 (.nilFunc) := ⟨Tryz.zeroValue256⟩
instance : Agg Tryz.prog 258 false := ⟨Tryz.isAgg258⟩
instance : Siz Tryz.prog 258 1 := ⟨Tryz.sizeOf258⟩
instance : Byt Tryz.prog 258 8 := ⟨_, Tryz.type258, rfl⟩
instance : Zer Tryz.prog 258 (.nilFunc) := ⟨Tryz.zeroValue258⟩
instance : Und Tryz.prog 266 (.int .u64) := ⟨Tryz.underlying266⟩
instance : Agg Tryz.prog 266 false := ⟨Tryz.isAgg266⟩
instance : Siz Tryz.prog 266 1 := ⟨Tryz.sizeOf266⟩
instance : Byt Tryz.prog 266 8 := ⟨_, Tryz.type266, rfl⟩
instance : Zer Tryz.prog 266 (.int .u64 0) := ⟨Tryz.zeroValue266⟩
instance : Und Tryz.prog 271 (.slice 47) := ⟨Tryz.underlying271⟩
instance : Agg Tryz.prog 271 false := ⟨Tryz.isAgg271⟩
instance : Siz Tryz.prog 271 1 := ⟨Tryz.sizeOf271⟩
instance : Byt Tryz.prog 271 24 := ⟨_, Tryz.type271, rfl⟩
instance : Zer Tryz.prog 271 (.slice none 0 0) := ⟨Tryz.zeroValue271⟩
instance : Und Tryz.prog 272 (.int .i64) := ⟨Tryz.underlying272⟩
instance : Agg Tryz.prog 272 false := ⟨Tryz.isAgg272⟩
instance : Siz Tryz.prog 272 1 := ⟨Tryz.sizeOf272⟩
instance : Byt Tryz.prog 272 8 := ⟨_, Tryz.type272, rfl⟩
instance : Zer Tryz.prog 272 (.int .i64 0) := ⟨Tryz.zeroValue272⟩
instance : Agg Tryz.prog 274 true := ⟨Tryz.isAgg274⟩
instance : Siz Tryz.prog 274 4 := ⟨Tryz.sizeOf274⟩
instance : Byt Tryz.prog 274 32 := ⟨_, Tryz.type274, rfl⟩
instance : Zer Tryz.prog 274 (.agg #[.int .i64 0, .int .i64 0, .int .i64 0, .int .i64 0]) := ⟨Tryz.zeroValue274⟩
instance : Fld Tryz.prog 274 0 0 := ⟨_, _, Tryz.underlying274, rfl, rfl, fun w => ⟨_, Tryz.sizeOf272 w⟩⟩
instance : Fld Tryz.prog 274 1 1 := ⟨_, _, Tryz.underlying274, rfl, rfl, fun w => ⟨_, Tryz.sizeOf3 w⟩⟩
instance : Fld Tryz.prog 274 2 2 := ⟨_, _, Tryz.underlying274, rfl, rfl, fun w => ⟨_, Tryz.sizeOf3 w⟩⟩
instance : Fld Tryz.prog 274 3 3 := ⟨_, _, Tryz.underlying274, rfl, rfl, fun w => ⟨_, Tryz.sizeOf3 w⟩⟩
instance : Plc Tryz.prog 274 [(0, 1), (1, 1), (2, 1), (3, 1)] := ⟨_, Tryz.underlying274, fun w => by kernel_rfl⟩
instance : Agg Tryz.prog 275 false := ⟨Tryz.isAgg275⟩
instance : Siz Tryz.prog 275 1 := ⟨Tryz.sizeOf275⟩
instance : Byt Tryz.prog 275 0 := ⟨_, Tryz.type275, rfl⟩
instance : Agg Tryz.prog 279 false := ⟨Tryz.isAgg279⟩
instance : Siz Tryz.prog 279 1 := ⟨Tryz.sizeOf279⟩
instance : Byt Tryz.prog 279 8 := ⟨_, Tryz.type279, rfl⟩
instance : Zer Tryz.prog 279 (.nilFunc) := ⟨Tryz.zeroValue279⟩
instance : Agg Tryz.prog 283 false := ⟨Tryz.isAgg283⟩
instance : Siz Tryz.prog 283 1 := ⟨Tryz.sizeOf283⟩
instance : Byt Tryz.prog 283 8 := ⟨_, Tryz.type283, rfl⟩
instance : Zer Tryz.prog 283 (.nilFunc) := ⟨Tryz.zeroValue283⟩
instance : Agg Tryz.prog 284 false := ⟨Tryz.isAgg284⟩
instance : Siz Tryz.prog 284 1 := ⟨Tryz.sizeOf284⟩
instance : Byt Tryz.prog 284 0 := ⟨_, Tryz.type284, rfl⟩
instance : Agg Tryz.prog 289 true := ⟨Tryz.isAgg289⟩
instance : Siz Tryz.prog 289 8 := ⟨Tryz.sizeOf289⟩
instance : Byt Tryz.prog 289 80 := ⟨_, Tryz.type289, rfl⟩
instance : Zer Tryz.prog 289 (.agg #[.bool false, .int .i64 0, .int .i64 0, .int .i64 0, .int .u64 0, .int .u64 0, .int .i64 0, .slice none 0 0]) := ⟨Tryz.zeroValue289⟩
instance : Fld Tryz.prog 289 0 0 := ⟨_, _, Tryz.underlying289, rfl, rfl, fun w => ⟨_, Tryz.sizeOf232 w⟩⟩
instance : Fld Tryz.prog 289 1 4 := ⟨_, _, Tryz.underlying289, rfl, rfl, fun w => ⟨_, Tryz.sizeOf47 w⟩⟩
instance : Fld Tryz.prog 289 2 5 := ⟨_, _, Tryz.underlying289, rfl, rfl, fun w => ⟨_, Tryz.sizeOf47 w⟩⟩
instance : Fld Tryz.prog 289 3 6 := ⟨_, _, Tryz.underlying289, rfl, rfl, fun w => ⟨_, Tryz.sizeOf3 w⟩⟩
instance : Fld Tryz.prog 289 4 7 := ⟨_, _, Tryz.underlying289, rfl, rfl, fun w => ⟨_, Tryz.sizeOf35 w⟩⟩
instance : Plc Tryz.prog 289 [(0, 4), (4, 1), (5, 1), (6, 1), (7, 1)] := ⟨_, Tryz.underlying289, fun w => by kernel_rfl⟩
instance : Agg Tryz.prog 290 false := ⟨Tryz.isAgg290⟩
instance : Siz Tryz.prog 290 1 := ⟨Tryz.sizeOf290⟩
instance : Byt Tryz.prog 290 0 := ⟨_, Tryz.type290, rfl⟩
instance : Und Tryz.prog 294 (.int .i64) := ⟨Tryz.underlying294⟩
instance : Agg Tryz.prog 294 false := ⟨Tryz.isAgg294⟩
instance : Siz Tryz.prog 294 1 := ⟨Tryz.sizeOf294⟩
instance : Byt Tryz.prog 294 8 := ⟨_, Tryz.type294, rfl⟩
instance : Zer Tryz.prog 294 (.int .i64 0) := ⟨Tryz.zeroValue294⟩
instance : Agg Tryz.prog 295 false := ⟨Tryz.isAgg295⟩
instance : Siz Tryz.prog 295 1 := ⟨Tryz.sizeOf295⟩
instance : Byt Tryz.prog 295 0 := ⟨_, Tryz.type295, rfl⟩
instance : Agg Tryz.prog 301 false := ⟨Tryz.isAgg301⟩
instance : Siz Tryz.prog 301 1 := ⟨Tryz.sizeOf301⟩
instance : Byt Tryz.prog 301 0 := ⟨_, Tryz.type301, rfl⟩
instance : Agg Tryz.prog 302 false := ⟨Tryz.isAgg302⟩
instance : Siz Tryz.prog 302 1 := ⟨Tryz.sizeOf302⟩
instance : Byt Tryz.prog 302 8 := ⟨_, Tryz.type302, rfl⟩
instance : Zer Tryz.prog 302 (.nilFunc) := ⟨Tryz.zeroValue302⟩
instance : Und Tryz.prog 312 (.array 8 3) := ⟨Tryz.underlying312⟩
instance : Agg Tryz.prog 312 true := ⟨Tryz.isAgg312⟩
instance : Siz Tryz.prog 312 8 := ⟨Tryz.sizeOf312⟩
instance : Byt Tryz.prog 312 64 := ⟨_, Tryz.type312, rfl⟩
instance : Zer Tryz.prog 312 (.agg #[.int .i64 0, .int .i64 0, .int .i64 0, .int .i64 0, .int .i64 0, .int .i64 0, .int .i64 0, .int .i64 0]) := ⟨Tryz.zeroValue312⟩
instance : Und Tryz.prog 314 (.slice 28) := ⟨Tryz.underlying314⟩
instance : Agg Tryz.prog 314 false := ⟨Tryz.isAgg314⟩
instance : Siz Tryz.prog 314 1 := ⟨Tryz.sizeOf314⟩
instance : Byt Tryz.prog 314 24 := ⟨_, Tryz.type314, rfl⟩
instance : Zer Tryz.prog 314 (.slice none 0 0) := ⟨Tryz.zeroValue314⟩
instance : Agg Tryz.prog 318 false := ⟨Tryz.isAgg318⟩
instance : Siz Tryz.prog 318 1 := ⟨Tryz.sizeOf318⟩
instance : Byt Tryz.prog 318 0 := ⟨_, Tryz.type318, rfl⟩
instance : Agg Tryz.prog 320 false := ⟨Tryz.isAgg320⟩
instance : Siz Tryz.prog 320 1 := ⟨Tryz.sizeOf320⟩
instance : Byt Tryz.prog 320 0 := ⟨_, Tryz.type320, rfl⟩
instance : Und Tryz.prog 322 (.pointer 3) := ⟨Tryz.underlying322⟩
instance : Agg Tryz.prog 322 false := ⟨Tryz.isAgg322⟩
instance : Siz Tryz.prog 322 1 := ⟨Tryz.sizeOf322⟩
instance : Byt Tryz.prog 322 8 := ⟨_, Tryz.type322, rfl⟩
instance : Zer Tryz.prog 322 (.pointer none) := ⟨Tryz.zeroValue322⟩
instance : Und Tryz.prog 323 (.int .u64) := ⟨Tryz.underlying323⟩
instance : Agg Tryz.prog 323 false := ⟨Tryz.isAgg323⟩
instance : Siz Tryz.prog 323 1 := ⟨Tryz.sizeOf323⟩
instance : Byt Tryz.prog 323 8 := ⟨_, Tryz.type323, rfl⟩
instance : Zer Tryz.prog 323 (.int .u64 0) := ⟨Tryz.zeroValue323⟩
instance : Und Tryz.prog 332 (.int .u64) := ⟨Tryz.underlying332⟩
instance : Agg Tryz.prog 332 false := ⟨Tryz.isAgg332⟩
instance : Siz Tryz.prog 332 1 := ⟨Tryz.sizeOf332⟩
instance : Byt Tryz.prog 332 8 := ⟨_, Tryz.type332, rfl⟩
instance : Zer Tryz.prog 332 (.int .u64 0) := ⟨Tryz.zeroValue332⟩
instance : Agg Tryz.prog 334 true := ⟨Tryz.isAgg334⟩
instance : Siz Tryz.prog 334 2 := ⟨Tryz.sizeOf334⟩
instance : Byt Tryz.prog 334 16 := ⟨_, Tryz.type334, rfl⟩
instance : Zer Tryz.prog 334 (.agg #[.int .u64 0, .int .u64 0]) := ⟨Tryz.zeroValue334⟩
instance : Fld Tryz.prog 334 0 0 := ⟨_, _, Tryz.underlying334, rfl, rfl, fun w => ⟨_, Tryz.sizeOf332 w⟩⟩
instance : Fld Tryz.prog 334 1 1 := ⟨_, _, Tryz.underlying334, rfl, rfl, fun w => ⟨_, Tryz.sizeOf47 w⟩⟩
instance : Plc Tryz.prog 334 [(0, 1), (1, 1)] := ⟨_, Tryz.underlying334, fun w => by kernel_rfl⟩
instance : Und Tryz.prog 340 (.array 2 47) := ⟨Tryz.underlying340⟩
instance : Agg Tryz.prog 340 true := ⟨Tryz.isAgg340⟩
instance : Siz Tryz.prog 340 2 := ⟨Tryz.sizeOf340⟩
instance : Byt Tryz.prog 340 16 := ⟨_, Tryz.type340, rfl⟩
instance : Zer Tryz.prog 340 (.agg #[.int .u64 0, .int .u64 0]) := ⟨Tryz.zeroValue340⟩
instance : Agg Tryz.prog 341 false := ⟨Tryz.isAgg341⟩
instance : Siz Tryz.prog 341 1 := ⟨Tryz.sizeOf341⟩
instance : Byt Tryz.prog 341 0 := ⟨_, Tryz.type341, rfl⟩
instance : Agg Tryz.prog 343 false := ⟨Tryz.isAgg343⟩
instance : Siz Tryz.prog 343 1 := ⟨Tryz.sizeOf343⟩
instance : Byt Tryz.prog 343 0 := ⟨_, Tryz.type343, rfl⟩
instance : Agg Tryz.prog 347 false := ⟨Tryz.isAgg347⟩
instance : Siz Tryz.prog 347 1 := ⟨Tryz.sizeOf347⟩
instance : Byt Tryz.prog 347 8 := ⟨_, Tryz.type347, rfl⟩
instance : Zer Tryz.prog 347 (.nilFunc) := ⟨Tryz.zeroValue347⟩
instance : Agg Tryz.prog 349 false := ⟨Tryz.isAgg349⟩
instance : Siz Tryz.prog 349 1 := ⟨Tryz.sizeOf349⟩
instance : Byt Tryz.prog 349 0 := ⟨_, Tryz.type349, rfl⟩
instance : Agg Tryz.prog 351 false := ⟨Tryz.isAgg351⟩
instance : Siz Tryz.prog 351 1 := ⟨Tryz.sizeOf351⟩
instance : Byt Tryz.prog 351 8 := ⟨_, Tryz.type351, rfl⟩
instance : Zer Tryz.prog 351 (.nilFunc) := ⟨Tryz.zeroValue351⟩
instance : Agg Tryz.prog 353 true := ⟨Tryz.isAgg353⟩
instance : Siz Tryz.prog 353 2 := ⟨Tryz.sizeOf353⟩
instance : Byt Tryz.prog 353 16 := ⟨_, Tryz.type353, rfl⟩
instance : Zer Tryz.prog 353 (.agg #[.int .i64 0, .nilFunc]) := ⟨Tryz.zeroValue353⟩
instance : Fld Tryz.prog 353 0 0 := ⟨_, _, Tryz.underlying353, rfl, rfl, fun w => ⟨_, Tryz.sizeOf272 w⟩⟩
instance : Fld Tryz.prog 353 1 1 := ⟨_, _, Tryz.underlying353, rfl, rfl, fun w => ⟨_, Tryz.sizeOf351 w⟩⟩
instance : Plc Tryz.prog 353 [(0, 1), (1, 1)] := ⟨_, Tryz.underlying353, fun w => by kernel_rfl⟩
instance : Und Tryz.prog 354 (.slice 353) := ⟨Tryz.underlying354⟩
instance : Agg Tryz.prog 354 false := ⟨Tryz.isAgg354⟩
instance : Siz Tryz.prog 354 1 := ⟨Tryz.sizeOf354⟩
instance : Byt Tryz.prog 354 24 := ⟨_, Tryz.type354, rfl⟩
instance : Zer Tryz.prog 354 (.slice none 0 0) := ⟨Tryz.zeroValue354⟩
instance : Agg Tryz.prog 356 false := ⟨Tryz.isAgg356⟩
instance : Siz Tryz.prog 356 1 := ⟨Tryz.sizeOf356⟩
instance : Byt Tryz.prog 356 8 := ⟨_, Tryz.type356, rfl⟩
instance : Zer Tryz.prog 356 (.nilFunc) := ⟨Tryz.zeroValue356⟩
instance : Und Tryz.prog 357 (.pointer 323) := ⟨Tryz.underlying357⟩
instance : Agg Tryz.prog 357 false := ⟨Tryz.isAgg357⟩
instance : Siz Tryz.prog 357 1 := ⟨Tryz.sizeOf357⟩
instance : Byt Tryz.prog 357 8 := ⟨_, Tryz.type357, rfl⟩
instance : Zer Tryz.prog 357 (.pointer none) := ⟨Tryz.zeroValue357⟩
instance : Agg Tryz.prog 360 false := ⟨Tryz.isAgg360⟩
instance : Siz Tryz.prog 360 1 := ⟨Tryz.sizeOf360⟩
instance : Byt Tryz.prog 360 0 := ⟨_, Tryz.type360, rfl⟩
instance : Agg Tryz.prog 363 false := ⟨Tryz.isAgg363⟩
instance : Siz Tryz.prog 363 1 := ⟨Tryz.sizeOf363⟩
instance : Byt Tryz.prog 363 8 := ⟨_, Tryz.type363, rfl⟩
instance : Zer Tryz.prog 363 (.nilFunc) := ⟨Tryz.zeroValue363⟩
instance : Entr Tryz.prog 2 := ⟨Tryz.call2⟩
instance : Entr Tryz.prog 3 := ⟨Tryz.call3⟩
instance : Entr Tryz.prog 4 := ⟨Tryz.call4⟩
instance : Entr Tryz.prog 5 := ⟨Tryz.call5⟩
instance : Entr Tryz.prog 6 := ⟨Tryz.call6⟩
instance : Entr Tryz.prog 7 := ⟨Tryz.call7⟩
instance : Entr Tryz.prog 8 := ⟨Tryz.call8⟩
instance : Entr Tryz.prog 9 := ⟨Tryz.call9⟩
instance : Entr Tryz.prog 10 := ⟨Tryz.call10⟩
instance : Entr Tryz.prog 11 := ⟨Tryz.call11⟩
instance : Entr Tryz.prog 12 := ⟨Tryz.call12⟩
instance : Entr Tryz.prog 13 := ⟨Tryz.call13⟩
instance : Entr Tryz.prog 14 := ⟨Tryz.call14⟩
instance : Entr Tryz.prog 15 := ⟨Tryz.call15⟩
instance : Entr Tryz.prog 16 := ⟨Tryz.call16⟩
instance : Entr Tryz.prog 17 := ⟨Tryz.call17⟩
instance : Entr Tryz.prog 18 := ⟨Tryz.call18⟩
instance : Entr Tryz.prog 19 := ⟨Tryz.call19⟩
instance : Entr Tryz.prog 20 := ⟨Tryz.call20⟩
instance : Entr Tryz.prog 21 := ⟨Tryz.call21⟩
instance : Entr Tryz.prog 22 := ⟨Tryz.call22⟩
instance : Entr Tryz.prog 23 := ⟨Tryz.call23⟩
instance : Entr Tryz.prog 24 := ⟨Tryz.call24⟩
instance : Entr Tryz.prog 25 := ⟨Tryz.call25⟩
instance : Entr Tryz.prog 26 := ⟨Tryz.call26⟩
instance : Entr Tryz.prog 27 := ⟨Tryz.call27⟩
instance : Entr Tryz.prog 28 := ⟨Tryz.call28⟩
instance : Entr Tryz.prog 29 := ⟨Tryz.call29⟩
instance : Entr Tryz.prog 30 := ⟨Tryz.call30⟩
instance : Entr Tryz.prog 31 := ⟨Tryz.call31⟩
instance : Entr Tryz.prog 32 := ⟨Tryz.call32⟩
instance : Entr Tryz.prog 33 := ⟨Tryz.call33⟩
instance : Entr Tryz.prog 34 := ⟨Tryz.call34⟩
instance : Entr Tryz.prog 35 := ⟨Tryz.call35⟩
instance : Entr Tryz.prog 36 := ⟨Tryz.call36⟩
instance : Entr Tryz.prog 37 := ⟨Tryz.call37⟩
instance : Entr Tryz.prog 38 := ⟨Tryz.call38⟩
instance : Entr Tryz.prog 39 := ⟨Tryz.call39⟩
instance : Entr Tryz.prog 40 := ⟨Tryz.call40⟩
instance : Entr Tryz.prog 41 := ⟨Tryz.call41⟩
instance : Entr Tryz.prog 42 := ⟨Tryz.call42⟩
instance : Entr Tryz.prog 43 := ⟨Tryz.call43⟩
instance : Entr Tryz.prog 44 := ⟨Tryz.call44⟩
instance : Entr Tryz.prog 45 := ⟨Tryz.call45⟩
instance : Entr Tryz.prog 46 := ⟨Tryz.call46⟩
instance : Entr Tryz.prog 47 := ⟨Tryz.call47⟩
instance : Entr Tryz.prog 48 := ⟨Tryz.call48⟩
instance : Entr Tryz.prog 49 := ⟨Tryz.call49⟩
instance : Entr Tryz.prog 50 := ⟨Tryz.call50⟩
instance : Entr Tryz.prog 51 := ⟨Tryz.call51⟩
instance : Entr Tryz.prog 52 := ⟨Tryz.call52⟩
instance : Entr Tryz.prog 53 := ⟨Tryz.call53⟩
instance : Entr Tryz.prog 54 := ⟨Tryz.call54⟩
instance : Entr Tryz.prog 55 := ⟨Tryz.call55⟩
instance : Entr Tryz.prog 56 := ⟨Tryz.call56⟩
instance : Entr Tryz.prog 57 := ⟨Tryz.call57⟩
instance : Entr Tryz.prog 58 := ⟨Tryz.call58⟩
instance : Entr Tryz.prog 59 := ⟨Tryz.call59⟩
instance : Entr Tryz.prog 60 := ⟨Tryz.call60⟩
instance : Entr Tryz.prog 61 := ⟨Tryz.call61⟩
instance : Entr Tryz.prog 62 := ⟨Tryz.call62⟩
instance : Entr Tryz.prog 63 := ⟨Tryz.call63⟩
instance : Entr Tryz.prog 64 := ⟨Tryz.call64⟩
instance : Entr Tryz.prog 65 := ⟨Tryz.call65⟩
instance : Entr Tryz.prog 66 := ⟨Tryz.call66⟩
instance : Entr Tryz.prog 67 := ⟨Tryz.call67⟩
instance : Entr Tryz.prog 68 := ⟨Tryz.call68⟩
instance : Entr Tryz.prog 69 := ⟨Tryz.call69⟩
instance : Entr Tryz.prog 70 := ⟨Tryz.call70⟩
instance : Entr Tryz.prog 71 := ⟨Tryz.call71⟩
instance : Entr Tryz.prog 72 := ⟨Tryz.call72⟩
instance : Entr Tryz.prog 73 := ⟨Tryz.call73⟩
instance : Entr Tryz.prog 74 := ⟨Tryz.call74⟩
instance : Entr Tryz.prog 75 := ⟨Tryz.call75⟩
instance : Entr Tryz.prog 76 := ⟨Tryz.call76⟩
instance : Entr Tryz.prog 77 := ⟨Tryz.call77⟩
instance : Entr Tryz.prog 78 := ⟨Tryz.call78⟩
instance : Entr Tryz.prog 79 := ⟨Tryz.call79⟩
instance : Entr Tryz.prog 80 := ⟨Tryz.call80⟩
instance : Entr Tryz.prog 81 := ⟨Tryz.call81⟩
instance : Entr Tryz.prog 82 := ⟨Tryz.call82⟩
instance : Entr Tryz.prog 83 := ⟨Tryz.call83⟩
instance : Entr Tryz.prog 84 := ⟨Tryz.call84⟩
instance : Entr Tryz.prog 85 := ⟨Tryz.call85⟩
instance : Entr Tryz.prog 86 := ⟨Tryz.call86⟩
instance : Entr Tryz.prog 87 := ⟨Tryz.call87⟩
instance : Entr Tryz.prog 88 := ⟨Tryz.call88⟩
instance : Entr Tryz.prog 89 := ⟨Tryz.call89⟩
instance : Entr Tryz.prog 90 := ⟨Tryz.call90⟩
instance : Entr Tryz.prog 91 := ⟨Tryz.call91⟩
instance : Entr Tryz.prog 92 := ⟨Tryz.call92⟩
instance : Entr Tryz.prog 93 := ⟨Tryz.call93⟩
instance : Entr Tryz.prog 94 := ⟨Tryz.call94⟩
instance : Entr Tryz.prog 95 := ⟨Tryz.call95⟩
instance : Entr Tryz.prog 96 := ⟨Tryz.call96⟩
instance : Entr Tryz.prog 97 := ⟨Tryz.call97⟩
instance : Entr Tryz.prog 98 := ⟨Tryz.call98⟩
instance : Entr Tryz.prog 99 := ⟨Tryz.call99⟩
instance : Entr Tryz.prog 100 := ⟨Tryz.call100⟩
instance : Entr Tryz.prog 101 := ⟨Tryz.call101⟩
instance : Entr Tryz.prog 102 := ⟨Tryz.call102⟩
instance : Entr Tryz.prog 103 := ⟨Tryz.call103⟩
instance : Entr Tryz.prog 104 := ⟨Tryz.call104⟩
instance : Entr Tryz.prog 105 := ⟨Tryz.call105⟩
instance : Entr Tryz.prog 106 := ⟨Tryz.call106⟩
instance : Entr Tryz.prog 107 := ⟨Tryz.call107⟩
instance : Entr Tryz.prog 108 := ⟨Tryz.call108⟩
instance : Entr Tryz.prog 109 := ⟨Tryz.call109⟩
instance : Entr Tryz.prog 110 := ⟨Tryz.call110⟩
instance : Entr Tryz.prog 111 := ⟨Tryz.call111⟩
instance : Entr Tryz.prog 112 := ⟨Tryz.call112⟩
instance : Entr Tryz.prog 113 := ⟨Tryz.call113⟩
instance : Entr Tryz.prog 114 := ⟨Tryz.call114⟩
instance : Entr Tryz.prog 115 := ⟨Tryz.call115⟩
instance : Entr Tryz.prog 116 := ⟨Tryz.call116⟩
instance : Entr Tryz.prog 117 := ⟨Tryz.call117⟩
instance : Entr Tryz.prog 118 := ⟨Tryz.call118⟩
instance : Entr Tryz.prog 119 := ⟨Tryz.call119⟩
instance : Entr Tryz.prog 120 := ⟨Tryz.call120⟩
instance : Entr Tryz.prog 121 := ⟨Tryz.call121⟩
instance : Entr Tryz.prog 122 := ⟨Tryz.call122⟩
instance : Entr Tryz.prog 123 := ⟨Tryz.call123⟩
instance : Entr Tryz.prog 124 := ⟨Tryz.call124⟩
instance : Entr Tryz.prog 125 := ⟨Tryz.call125⟩
instance : Entr Tryz.prog 126 := ⟨Tryz.call126⟩
instance : Entr Tryz.prog 127 := ⟨Tryz.call127⟩
instance : Entr Tryz.prog 128 := ⟨Tryz.call128⟩
instance : Entr Tryz.prog 129 := ⟨Tryz.call129⟩
instance : Entr Tryz.prog 130 := ⟨Tryz.call130⟩
instance : Entr Tryz.prog 131 := ⟨Tryz.call131⟩
instance : Entr Tryz.prog 132 := ⟨Tryz.call132⟩
instance : Entr Tryz.prog 133 := ⟨Tryz.call133⟩
instance : Entr Tryz.prog 134 := ⟨Tryz.call134⟩
instance : Entr Tryz.prog 135 := ⟨Tryz.call135⟩
instance : Entr Tryz.prog 136 := ⟨Tryz.call136⟩
instance : Entr Tryz.prog 137 := ⟨Tryz.call137⟩
instance : Entr Tryz.prog 138 := ⟨Tryz.call138⟩
instance : Entr Tryz.prog 139 := ⟨Tryz.call139⟩
instance : Entr Tryz.prog 140 := ⟨Tryz.call140⟩
instance : Entr Tryz.prog 141 := ⟨Tryz.call141⟩
instance : Entr Tryz.prog 142 := ⟨Tryz.call142⟩
instance : Entr Tryz.prog 143 := ⟨Tryz.call143⟩
instance : Entr Tryz.prog 144 := ⟨Tryz.call144⟩
instance : Entr Tryz.prog 145 := ⟨Tryz.call145⟩
instance : Entr Tryz.prog 146 := ⟨Tryz.call146⟩
instance : Entr Tryz.prog 147 := ⟨Tryz.call147⟩
instance : Entr Tryz.prog 148 := ⟨Tryz.call148⟩
instance : Entr Tryz.prog 149 := ⟨Tryz.call149⟩
instance : Entr Tryz.prog 150 := ⟨Tryz.call150⟩
instance : Entr Tryz.prog 151 := ⟨Tryz.call151⟩
instance : Entr Tryz.prog 152 := ⟨Tryz.call152⟩
instance : Entr Tryz.prog 153 := ⟨Tryz.call153⟩
instance : Entr Tryz.prog 154 := ⟨Tryz.call154⟩
instance : Entr Tryz.prog 155 := ⟨Tryz.call155⟩
instance : Entr Tryz.prog 156 := ⟨Tryz.call156⟩
instance : Entr Tryz.prog 157 := ⟨Tryz.call157⟩
instance : Entr Tryz.prog 158 := ⟨Tryz.call158⟩
instance : Entr Tryz.prog 159 := ⟨Tryz.call159⟩
instance : Entr Tryz.prog 160 := ⟨Tryz.call160⟩
instance : Entr Tryz.prog 161 := ⟨Tryz.call161⟩
instance : Entr Tryz.prog 162 := ⟨Tryz.call162⟩
instance : Entr Tryz.prog 163 := ⟨Tryz.call163⟩
instance : Entr Tryz.prog 164 := ⟨Tryz.call164⟩
instance : Entr Tryz.prog 165 := ⟨Tryz.call165⟩
instance : Entr Tryz.prog 166 := ⟨Tryz.call166⟩
instance : Entr Tryz.prog 168 := ⟨Tryz.call168⟩
instance : Entr Tryz.prog 169 := ⟨Tryz.call169⟩
instance : Entr Tryz.prog 170 := ⟨Tryz.call170⟩
instance : Entr Tryz.prog 171 := ⟨Tryz.call171⟩
instance : Entr Tryz.prog 172 := ⟨Tryz.call172⟩
instance : Entr Tryz.prog 173 := ⟨Tryz.call173⟩
instance : Entr Tryz.prog 174 := ⟨Tryz.call174⟩
instance : Entr Tryz.prog 175 := ⟨Tryz.call175⟩
instance : Entr Tryz.prog 176 := ⟨Tryz.call176⟩
instance : Entr Tryz.prog 177 := ⟨Tryz.call177⟩
instance : Entr Tryz.prog 178 := ⟨Tryz.call178⟩
instance : Entr Tryz.prog 179 := ⟨Tryz.call179⟩
instance : Entr Tryz.prog 180 := ⟨Tryz.call180⟩
instance : Entr Tryz.prog 181 := ⟨Tryz.call181⟩
instance : Entr Tryz.prog 182 := ⟨Tryz.call182⟩
instance : Entr Tryz.prog 183 := ⟨Tryz.call183⟩
instance : Entr Tryz.prog 184 := ⟨Tryz.call184⟩
instance : Entr Tryz.prog 185 := ⟨Tryz.call185⟩
instance : Entr Tryz.prog 186 := ⟨Tryz.call186⟩
instance : Entr Tryz.prog 187 := ⟨Tryz.call187⟩
instance : Entr Tryz.prog 188 := ⟨Tryz.call188⟩
instance : Entr Tryz.prog 189 := ⟨Tryz.call189⟩
instance : Entr Tryz.prog 190 := ⟨Tryz.call190⟩
instance : Entr Tryz.prog 191 := ⟨Tryz.call191⟩
instance : Entr Tryz.prog 192 := ⟨Tryz.call192⟩
instance : Entr Tryz.prog 193 := ⟨Tryz.call193⟩
instance : Entr Tryz.prog 194 := ⟨Tryz.call194⟩
instance : Entr Tryz.prog 195 := ⟨Tryz.call195⟩
instance : Entr Tryz.prog 196 := ⟨Tryz.call196⟩
instance : Entr Tryz.prog 197 := ⟨Tryz.call197⟩
instance : Entr Tryz.prog 198 := ⟨Tryz.call198⟩
instance : Entr Tryz.prog 199 := ⟨Tryz.call199⟩
instance : Entr Tryz.prog 200 := ⟨Tryz.call200⟩
instance : Entr Tryz.prog 201 := ⟨Tryz.call201⟩
instance : Entr Tryz.prog 202 := ⟨Tryz.call202⟩
instance : Entr Tryz.prog 203 := ⟨Tryz.call203⟩
instance : Entr Tryz.prog 204 := ⟨Tryz.call204⟩
instance : Entr Tryz.prog 205 := ⟨Tryz.call205⟩
instance : Entr Tryz.prog 206 := ⟨Tryz.call206⟩
instance : Entr Tryz.prog 207 := ⟨Tryz.call207⟩
instance : Entr Tryz.prog 208 := ⟨Tryz.call208⟩
instance : Entr Tryz.prog 209 := ⟨Tryz.call209⟩
instance : Entr Tryz.prog 210 := ⟨Tryz.call210⟩
instance : Entr Tryz.prog 211 := ⟨Tryz.call211⟩
instance : Entr Tryz.prog 212 := ⟨Tryz.call212⟩
instance : Entr Tryz.prog 213 := ⟨Tryz.call213⟩
instance : Entr Tryz.prog 214 := ⟨Tryz.call214⟩
instance : Entr Tryz.prog 215 := ⟨Tryz.call215⟩
instance : Entr Tryz.prog 216 := ⟨Tryz.call216⟩
instance : Entr Tryz.prog 217 := ⟨Tryz.call217⟩
instance : Entr Tryz.prog 218 := ⟨Tryz.call218⟩
instance : Entr Tryz.prog 219 := ⟨Tryz.call219⟩
instance : Entr Tryz.prog 220 := ⟨Tryz.call220⟩
instance : Entr Tryz.prog 221 := ⟨Tryz.call221⟩
instance : Entr Tryz.prog 222 := ⟨Tryz.call222⟩
instance : Entr Tryz.prog 223 := ⟨Tryz.call223⟩
instance : Entr Tryz.prog 224 := ⟨Tryz.call224⟩
instance : Entr Tryz.prog 225 := ⟨Tryz.call225⟩
instance : Entr Tryz.prog 226 := ⟨Tryz.call226⟩
instance : Entr Tryz.prog 227 := ⟨Tryz.call227⟩
instance : Entr Tryz.prog 228 := ⟨Tryz.call228⟩
instance : Entr Tryz.prog 229 := ⟨Tryz.call229⟩
instance : Entr Tryz.prog 230 := ⟨Tryz.call230⟩
instance : Entr Tryz.prog 231 := ⟨Tryz.call231⟩
instance : Entr Tryz.prog 232 := ⟨Tryz.call232⟩
instance : Entr Tryz.prog 233 := ⟨Tryz.call233⟩
instance : Entr Tryz.prog 234 := ⟨Tryz.call234⟩
instance : Entr Tryz.prog 235 := ⟨Tryz.call235⟩
instance : Entr Tryz.prog 236 := ⟨Tryz.call236⟩
instance : Entr Tryz.prog 237 := ⟨Tryz.call237⟩
instance : Entr Tryz.prog 238 := ⟨Tryz.call238⟩
instance : Entr Tryz.prog 239 := ⟨Tryz.call239⟩
instance : Entr Tryz.prog 240 := ⟨Tryz.call240⟩
instance : Entr Tryz.prog 241 := ⟨Tryz.call241⟩
instance : Entr Tryz.prog 242 := ⟨Tryz.call242⟩
instance : Entr Tryz.prog 243 := ⟨Tryz.call243⟩
instance : Entr Tryz.prog 244 := ⟨Tryz.call244⟩
instance : Entr Tryz.prog 245 := ⟨Tryz.call245⟩
instance : Entr Tryz.prog 246 := ⟨Tryz.call246⟩
instance : Entr Tryz.prog 247 := ⟨Tryz.call247⟩
instance : Entr Tryz.prog 248 := ⟨Tryz.call248⟩
instance : Entr Tryz.prog 249 := ⟨Tryz.call249⟩
instance : Entr Tryz.prog 250 := ⟨Tryz.call250⟩
instance : Entr Tryz.prog 251 := ⟨Tryz.call251⟩
instance : Entr Tryz.prog 252 := ⟨Tryz.call252⟩
instance : Entr Tryz.prog 253 := ⟨Tryz.call253⟩
instance : Entr Tryz.prog 254 := ⟨Tryz.call254⟩
instance : Entr Tryz.prog 255 := ⟨Tryz.call255⟩
instance : Entr Tryz.prog 256 := ⟨Tryz.call256⟩
instance : Entr Tryz.prog 257 := ⟨Tryz.call257⟩
instance : Entr Tryz.prog 258 := ⟨Tryz.call258⟩
instance : Entr Tryz.prog 259 := ⟨Tryz.call259⟩
instance : Entr Tryz.prog 260 := ⟨Tryz.call260⟩
instance : Entr Tryz.prog 261 := ⟨Tryz.call261⟩
instance : Entr Tryz.prog 262 := ⟨Tryz.call262⟩
instance : Entr Tryz.prog 263 := ⟨Tryz.call263⟩
instance : Entr Tryz.prog 264 := ⟨Tryz.call264⟩
instance : Entr Tryz.prog 265 := ⟨Tryz.call265⟩
theorem mixed : Tryz.prog.follows .mixedOrders = true := by kernel_rfl
instance : MixC Tryz.prog := ⟨mixed⟩
end
end Go.Proofs.YtmnhooepaemlcaaGreat

namespace Go.Pw
instance (priority := low) subApp2 {A A' B B' : Chunk} [h1 : SubC A' A] [h2 : SubC B' B] : SubC (A' ++ B') (A ++ B) := ⟨List.Sublist.append h1.out h2.out⟩
section
variable {P : Program} {w0 : World} {rd : Option Nat} {n : Nat} {K : Post} {ρ : Env} {ds : List Deferred} {L : Chunk} {c : Code} {m id : Nat} {ch : List PanicEntry} {next : Env → List Deferred → Chunk → Prop}
variable {fn : Func} {Φ : Value → Chunk → Prop} {Ψ : List PanicEntry → Chunk → Prop}
end
class At2 (L M1 M2 : Chunk) (C : outParam (Chunk → Chunk → Chunk)) : Prop where out : ∃ A B E, L = A ++ M1 ++ B ++ M2 ++ E ∧ ∀ X Y, C X Y = A ++ X ++ B ++ Y ++ E
instance at2Here {L M2 : Chunk} {b : Nat} {o : Obj} {C : Chunk → Chunk} [h : At L M2 C] : At2 ((b, o) :: L) [(b, o)] M2 (fun X Y => X ++ C Y) := ⟨by
 obtain ⟨A, B, h1, h2⟩ := h.out; exact ⟨[], A, B, by simp [h1], fun X Y => by simp [h2]⟩⟩
instance at2Cons {L M1 M2 : Chunk} {p : Nat × Obj} {C : Chunk → Chunk → Chunk} [h : At2 L M1 M2 C] : At2 (p :: L) M1 M2 (fun X Y => p :: C X Y) := ⟨by
 obtain ⟨A, B, E, h1, h2⟩ := h.out; exact ⟨p :: A, B, E, by simp [h1], fun X Y => by simp [h2]⟩⟩
instance at2Right {A L M1 M2 : Chunk} {C : Chunk → Chunk → Chunk} [h : At2 L M1 M2 C] : At2 (A ++ L) M1 M2 (fun X Y => A ++ C X Y) := ⟨by
 obtain ⟨A', B, E, h1, h2⟩ := h.out; exact ⟨A ++ A', B, E, by simp [h1], fun X Y => by simp [h2]⟩⟩
instance at2App {M1 M2 B : Chunk} {C : Chunk → Chunk} [h : At B M2 C] : At2 (M1 ++ B) M1 M2 (fun X Y => X ++ C Y) := ⟨by
 obtain ⟨A', B', h1, h2⟩ := h.out; exact ⟨[], A', B', by simp [h1], fun X Y => by simp [h2]⟩⟩
end Go.Pw

namespace Go.Pw
section
variable {P : Program} {w0 : World} {rd : Option Nat} {n : Nat} {ρ : Env} {ds : List Deferred} {L : Chunk}
theorem DSpec.mono {f : FuncId} {args : List Value} {u : FrameMode} {R R' : Ending → FrameMode → Chunk → Prop} (h : DSpec P w0 f args u L R) (hr : ∀ e u' L', R e u' L' → R' e u' L') : DSpec P w0 f args u L R' :=
 fun w hs => CallsDIn.mono (h w hs) fun e u' w' ⟨L', a, b⟩ => ⟨L', a, hr e u' L' b⟩
variable {fn : Func} {Φ : Value → Chunk → Prop} {Ψ : List PanicEntry → Chunk → Prop} {v : Value}
end
end Go.Pw

namespace Go.Pw
section
variable {P : Program} {w0 : World} {rd : Option Nat} {n : Nat} {K : Post} {ρ : Env} {ds : List Deferred} {L : Chunk} {ops : Array Oper} {l : List Oper} {d : Nat} {pos : String} {after : Array Edge} {ty : TypeId}
end
end Go.Pw

namespace Go.Pw.Sc
structure Turn where
 kind : Int
 slot : Int
 quota : Int
 thread : Int
 hslot : Int
 hgen : Int
 okind : Int
 oat : Int
 osize : Int
 omult : Int
 omany : Int
 obytes : List Int
 draws : List Int
deriving DecidableEq
structure Life where
 frames : Int
 key : Int
 h0 : Int
 h1 : Int
 turns : List Turn
deriving DecidableEq
def Turn.zero : Turn := ⟨0, 0, 0, 0, 0, 0, 0, 0, 0, 0, 0, [], []⟩
def Life.zero : Life := ⟨0, 0, 0, 0, []⟩
def leN : List Int → Int
 | [] => 0
 | x :: xs => x + 256 * leN xs
def isW (k : Int) : Prop := k = 1 ∨ k = 2 ∨ k = 4 ∨ k = 8
instance (k : Int) : Decidable (isW k) := by unfold isW; infer_instance
def most : Int := 2147483647
def InB (n b : Int) : Prop := 0 ≤ n ∧ n ≤ b
instance (n b : Int) : Decidable (InB n b) := by unfold InB; infer_instance
def hasH (k : Int) : Prop := k = 2 ∨ k = 3 ∨ k = 5
instance (k : Int) : Decidable (hasH k) := by unfold hasH; infer_instance
def hasT (k : Int) : Prop := 3 ≤ k ∧ k ≤ 6
instance (k : Int) : Decidable (hasT k) := by unfold hasT; infer_instance
def bare (t : Turn) : Turn :=
 { kind := t.kind, slot := if t.kind = 1 then t.slot else 0, quota := if t.kind = 1 then t.quota else 0, thread := if hasT t.kind then t.thread else 0, hslot := if hasH t.kind then t.hslot else 0, hgen := if hasH t.kind then t.hgen else 0, okind := if t.kind = 5 then t.okind else 0, oat := if t.kind = 5 then t.oat else 0, osize := if t.kind = 5 then t.osize else 0, omult := if t.kind = 5 then t.omult else 0, omany := if t.kind = 5 then t.omany else 0, obytes := if t.kind = 5 then t.obytes else [], draws := if t.kind = 6 then t.draws else [] }
def Right (t : Turn) : Prop :=
 (1 ≤ t.kind ∧ t.kind ≤ 6) ∧ InB t.slot 255 ∧ InB t.quota most ∧ InB t.thread 255 ∧ (InB t.hslot 255 ∧ InB t.hgen most) ∧ InB t.okind 255 ∧ (t.obytes.length : Int) ≤ 65535 ∧ (t.draws.length : Int) ≤ 255 ∧ t = bare t
instance (t : Turn) : Decidable (Right t) := by unfold Right; infer_instance
def FrOk (l : Life) : Prop := InB l.frames most ∧ InB l.h0 most ∧ InB l.h1 most
instance (l : Life) : Decidable (FrOk l) := by unfold FrOk; infer_instance
abbrev Pa (α : Type) := List Int → Option (α × List Int)
def takeP (n : Nat) : Pa (List Int) := fun xs => if n ≤ xs.length then some (xs.take n, xs.drop n) else none
def numP (w : Nat) : Pa Int := fun xs => (takeP w xs).map fun (a, r) => (leN a, r)
def smallP : Pa Int := fun xs => (numP 4 xs).bind fun (a, r) => if a ≤ most then some (a, r) else none
def bind {α β : Type} (p : Pa α) (f : α → Pa β) : Pa β := fun xs => (p xs).bind fun (a, r) => f a r
def ret {α : Type} (a : α) : Pa α := fun xs => some (a, xs)
def whenP {α : Type} (c : Prop) [Decidable c] (p : Pa α) (d : α) : Pa α := if c then p else ret d
def handP : Pa (Int × Int) := bind (numP 1) fun a => bind smallP fun b => ret (a, b)
structure OpP where
 okind : Int
 oat : Int
 osize : Int
 omult : Int
 omany : Int
 obytes : List Int
def opP : Pa OpP := bind (numP 1) fun a => bind (numP 4) fun b => bind (numP 8) fun c => bind (numP 8) fun d => bind (numP 8) fun e => bind (numP 2) fun n => bind (takeP n.toNat) fun s => ret ⟨a, b, c, d, e, s⟩
def drawP : Pa (List Int) := bind (numP 1) fun n => takeP n.toNat
def turnP : Pa Turn := bind (numP 1) fun k =>
 if k < 1 ∨ 6 < k then fun _ => none
 else if k = 1 then bind (numP 1) fun s => bind smallP fun q => ret ⟨k, s, q, 0, 0, 0, 0, 0, 0, 0, 0, [], []⟩
 else bind (whenP (3 ≤ k) (numP 1) 0) fun th => bind (whenP (hasH k) handP (0, 0)) fun h =>
  bind (whenP (k = 5) opP ⟨0, 0, 0, 0, 0, []⟩) fun o => bind (whenP (k = 6) drawP []) fun d =>
  ret { kind := k, slot := 0, quota := 0, thread := th, hslot := h.1, hgen := h.2, okind := o.okind, oat := o.oat, osize := o.osize, omult := o.omult, omany := o.omany, obytes := o.obytes, draws := d }
def turnsP : Nat → List Int → Option (List Turn)
 | 0, _ => none
 | f + 1, xs => if xs = [] then some [] else (turnP xs).bind fun (t, r) => (turnsP f r).map (t :: ·)
def same (a b : Life) : Prop := a.frames = b.frames ∧ a.key = b.key ∧ (a.h0 = b.h0 ∧ a.h1 = b.h1) ∧ a.turns.map bare = b.turns.map bare
instance (a b : Life) : Decidable (same a b) := by unfold same; infer_instance
end Go.Pw.Sc

namespace Go.Pw.Sc
structure BS (L : Chunk) (v : Value) (xs : List Int) : Prop where
 rd : Rd L 1 v xs.length (bv xs)
 byt : Byt8 xs
 len : (xs.length : Int) ≤ 9223372036854775807
theorem bv_length (xs : List Int) : (bv xs).length = xs.length := by simp [bv]
theorem BS.to {L L' : Chunk} {v : Value} {xs : List Int} (h : BS L v xs) [hm : MemC L L'] : BS L' v xs := ⟨h.rd.to, h.byt, h.len⟩
theorem BS.nil (L : Chunk) : BS L (.slice none 0 0) [] := ⟨⟨rfl, .inl ⟨⟨_, _, rfl⟩, rfl⟩⟩, fun _ h => (by cases h), by simp⟩
theorem BS.slice {L : Chunk} {v : Value} {xs : List Int} (h : BS L v xs) : ∃ a c, v = .slice a xs.length c := let ⟨a, c, h, _⟩ := h.rd.isSlice; ⟨a, c, h⟩
theorem BS.sng {L : Chunk} {v : Value} {xs : List Int} (h : BS L v xs) : Sng v := by obtain ⟨a, c, rfl⟩ := h.slice; infer_instance
@[reducible] def tcells (t : Turn) (vb vd : Value) : List Value :=
 [.int .i64 t.kind, .int .i64 t.slot, .int .i64 t.quota, .int .i64 t.thread, .int .i64 t.hslot, .int .i64 t.hgen, .int .i64 t.okind, .int .u32 t.oat, .int .u64 t.osize, .int .u64 t.omult, .int .u64 t.omany, vb, vd]
structure TR (t : Turn) : Prop where
 kind : inR .i64 t.kind
 slot : inR .i64 t.slot
 quota : inR .i64 t.quota
 thread : inR .i64 t.thread
 hslot : inR .i64 t.hslot
 hgen : inR .i64 t.hgen
 okind : inR .i64 t.okind
 oat : inR .u32 t.oat
 osize : inR .u64 t.osize
 omult : inR .u64 t.omult
 omany : inR .u64 t.omany
def TurnAt (L : Chunk) (c : List Value) (t : Turn) : Prop := ∃ vb vd, c = tcells t vb vd ∧ BS L vb t.obytes ∧ BS L vd t.draws ∧ TR t
theorem TurnAt.to {L L' : Chunk} {c : List Value} {t : Turn} (h : TurnAt L c t) [hm : MemC L L'] : TurnAt L' c t := let ⟨vb, vd, a, b, c, d⟩ := h; ⟨vb, vd, a, b.to, c.to, d⟩
theorem TurnAt.length {L : Chunk} {c : List Value} {t : Turn} (h : TurnAt L c t) : c.length = 13 := let ⟨_, _, a, _⟩ := h; a ▸ rfl
def TurnsAt (L : Chunk) : List Value → List Turn → Prop
 | xs, [] => xs = []
 | xs, t :: ts => ∃ c r, xs = c ++ r ∧ TurnAt L c t ∧ TurnsAt L r ts
theorem TurnsAt.mono {L L' : Chunk} (hm : ∀ p ∈ L, p ∈ L') : ∀ {xs : List Value} {ts : List Turn}, TurnsAt L xs ts → TurnsAt L' xs ts
 | _, [], h => h
 | _, _ :: _, ⟨c, r, e, h1, h2⟩ => ⟨c, r, e, @TurnAt.to _ _ _ _ h1 ⟨hm⟩, TurnsAt.mono hm h2⟩
theorem TurnsAt.to {L L' : Chunk} [hm : MemC L L'] {xs : List Value} {ts : List Turn} (h : TurnsAt L xs ts) : TurnsAt L' xs ts := h.mono hm.out
theorem TurnsAt.length {L : Chunk} : ∀ {xs : List Value} {ts : List Turn}, TurnsAt L xs ts → xs.length = ts.length * 13
 | xs, [], h => by have : xs = [] := h; simp [this]
 | _, t :: ts, ⟨c, r, e, h1, h2⟩ => by rw [e, List.length_append, h1.length, TurnsAt.length h2, List.length_cons]; omega
theorem TurnsAt.snoc {L : Chunk} : ∀ {xs : List Value} {ts : List Turn} {c : List Value} {t : Turn}, TurnsAt L xs ts → TurnAt L c t → TurnsAt L (xs ++ c) (ts ++ [t])
 | xs, [], c, t, h, h1 => by have : xs = [] := h; exact ⟨c, [], by simp [this], h1, rfl⟩
 | _, u :: ts, c, t, ⟨c', r, e, h1, h2⟩, h3 => ⟨c', r ++ c, by simp [e], h1, TurnsAt.snoc h2 h3⟩
theorem TurnsAt.get {L : Chunk} : ∀ {xs : List Value} {ts : List Turn} (i : Nat) (hi : i < ts.length), TurnsAt L xs ts → TurnAt L ((xs.drop (i * 13)).take 13) ts[i]
 | _, _ :: _, 0, _, ⟨c, r, e, h1, h2⟩ => by
  have := h1.length
  rw [e, Nat.zero_mul, List.drop_zero, List.take_append_of_le_length (by omega), List.take_of_length_le (by omega)]
  exact h1
 | _, _ :: ts, i + 1, hi, ⟨c, r, e, h1, h2⟩ => by
  have hl := h1.length
  have h3 := TurnsAt.get i (by simpa using hi) h2
  have e1 : (c ++ r).drop ((i + 1) * 13) = r.drop (i * 13) := by
   rw [show (i + 1) * 13 = c.length + i * 13 by omega, ← List.drop_drop, List.drop_left]
  rw [e, e1]
  exact h3
structure TS (L : Chunk) (v : Value) (ts : List Turn) : Prop where
 rd : ∃ xs, Rd L 13 v ts.length xs ∧ TurnsAt L xs ts
 len : (ts.length : Int) ≤ 9223372036854775807
theorem TS.to {L L' : Chunk} {v : Value} {ts : List Turn} (h : TS L v ts) [hm : MemC L L'] : TS L' v ts := ⟨let ⟨xs, a, b⟩ := h.rd; ⟨xs, a.to, b.to⟩, h.len⟩
theorem TS.slice {L : Chunk} {v : Value} {ts : List Turn} (h : TS L v ts) : ∃ a c, v = .slice a ts.length c := let ⟨_, a, _⟩ := h.rd; let ⟨b, c, h, _⟩ := a.isSlice; ⟨b, c, h⟩
theorem TS.sng {L : Chunk} {v : Value} {ts : List Turn} (h : TS L v ts) : Sng v := by obtain ⟨a, c, rfl⟩ := h.slice; infer_instance
theorem TS.nil (L : Chunk) : TS L (.slice none 0 0) [] := ⟨⟨[], ⟨rfl, .inl ⟨⟨_, _, rfl⟩, rfl⟩⟩, rfl⟩, by simp⟩
structure LR (l : Life) : Prop where
 frames : inR .i64 l.frames
 key : inR .u64 l.key
 h0 : inR .i64 l.h0
 h1 : inR .i64 l.h1
end Go.Pw.Sc

namespace Go.Pw.Sc
theorem takeP_inv {n : Nat} {xs a r : List Int} (h : takeP n xs = some (a, r)) : xs = a ++ r ∧ a.length = n := by
 unfold takeP at h
 split at h
 ·simp only [Option.some.injEq, Prod.mk.injEq] at h
  obtain ⟨rfl, rfl⟩ := h
  exact ⟨(List.take_append_drop ..).symm, by simp; omega⟩
 ·cases h
theorem bind_of {α β : Type} {p : Pa α} {f : α → Pa β} {xs r : List Int} {a : α} (h : p xs = some (a, r)) : bind p f xs = f a r := by simp [bind, h]
theorem bind_inv {α β : Type} {p : Pa α} {f : α → Pa β} {xs r : List Int} {b : β} (h : bind p f xs = some (b, r)) : ∃ a r1, p xs = some (a, r1) ∧ f a r1 = some (b, r) := by
 unfold bind at h
 cases h1 : p xs with
 | none => rw [h1] at h; cases h
 | some q => rw [h1] at h; exact ⟨q.1, q.2, rfl, h⟩
theorem bind_no {α β : Type} {p : Pa α} {f : α → Pa β} {xs : List Int} (h : p xs = none) : bind p f xs = none := by simp [bind, h]
theorem ret_inv {α : Type} {a b : α} {xs r : List Int} (h : ret a xs = some (b, r)) : b = a ∧ r = xs := by
 unfold ret at h
 simp only [Option.some.injEq, Prod.mk.injEq] at h
 exact ⟨h.1.symm, h.2.symm⟩
theorem z32 : inR .u32 0 := ⟨by decide, by decide⟩
theorem i64of {n b : Int} (h : InB n b) (hb : b ≤ most) : inR .i64 n := ⟨by have := h.1; omega, by have := h.2; unfold most at hb; omega⟩
structure Fine (t : Turn) : Prop where
 right : Right t
 tr : TR t
 bb : Byt8 t.obytes
 bd : Byt8 t.draws
theorem Fine.of {t : Turn} (h : Right t) (hr : inR .u32 t.oat ∧ inR .u64 t.osize ∧ inR .u64 t.omult ∧ inR .u64 t.omany) (bb : Byt8 t.obytes) (bd : Byt8 t.draws) : Fine t := by
 obtain ⟨⟨k1, k2⟩, hs, hq, ht, ⟨h1, h2⟩, ho, hb, hd, e⟩ := id h
 exact ⟨h, ⟨⟨by omega, by omega⟩, i64of hs (by decide), i64of hq (by decide), i64of ht (by decide), i64of h1 (by decide), i64of h2 (by decide), i64of ho (by decide), hr.1, hr.2.1, hr.2.2.1, hr.2.2.2⟩, bb, bd⟩
def RdP {α : Type} (p : Pa α) (xs : List Int) (b : Bool) (a : α) (xs' : List Int) (b' : Bool) : Prop :=
 (b' = true → b = true ∨ p xs = none) ∧ (b' = false → b = false ∧ p xs = some (a, xs'))
theorem RdP.bind {α β : Type} {p : Pa α} {f : α → Pa β} {xs xs1 xs2 : List Int} {b b1 b2 : Bool} {a : α} {c : β} (h1 : RdP p xs b a xs1 b1) (h2 : RdP (f a) xs1 b1 c xs2 b2) : RdP (Sc.bind p f) xs b c xs2 b2 := by
 refine ⟨fun e => ?_, fun e => ?_⟩
 ·cases hb1 : b1 with
  | true => exact (h1.1 hb1).imp id bind_no
  | false =>
   obtain ⟨hb, hp⟩ := h1.2 hb1
   rcases h2.1 e with h | h
   ·rw [hb1] at h; cases h
   ·exact .inr (by rw [bind_of hp, h])
 ·obtain ⟨hb1, hf⟩ := h2.2 e
  obtain ⟨hb, hp⟩ := h1.2 hb1
  exact ⟨hb, by rw [bind_of hp, hf]⟩
theorem RdP.ret {α : Type} {a : α} {xs : List Int} {b : Bool} : RdP (Sc.ret a) xs b a xs b := ⟨.inl, fun h => ⟨h, rfl⟩⟩
theorem RdP.bad {α : Type} {p : Pa α} {xs xs' : List Int} {b : Bool} {a : α} (h : p xs = none) : RdP p xs b a xs' true := ⟨fun _ => .inr h, fun e => by cases e⟩
theorem RdP.good {α : Type} {p : Pa α} {xs xs' : List Int} {a : α} (h : p xs = some (a, xs')) : RdP p xs false a xs' false := ⟨fun e => (by cases e), fun _ => ⟨rfl, h⟩⟩
end Go.Pw.Sc

namespace Go.Pw.Sc
theorem TS.open {L : Chunk} {v : Value} {ts : List Turn} (h : TS L v ts) (hn : ts.length ≠ 0) :
  ∃ b k cap l e fr, v = .slice (some ⟨b, k, none⟩) ts.length cap ∧ InC L b (.cells (List.toArray l) e fr) ∧ ts.length ≤ cap ∧
   ∀ i (hi : i < ts.length), ∃ vb vd, CutL l (k + i * 13) 13 (tcells ts[i] vb vd) ∧ BS L vb ts[i].obytes ∧ BS L vd ts[i].draws ∧ TR ts[i] := by
 obtain ⟨xs, hrd, hta⟩ := h.rd
 obtain ⟨b, k, cap, l, e, fr, h1, h2, h3, h4⟩ := hrd.open hn
 refine ⟨b, k, cap, l, e, fr, h1, h2, h3, fun i hi => ?_⟩
 obtain ⟨vb, vd, e1, h5, h6, h7⟩ := hta.get i hi
 exact ⟨vb, vd, e1 ▸ h4 i hi, h5, h6, h7⟩
def Cut (n S : Int) : Prop := 0 ≤ n ∧ n ≤ 200000 ∧ (S ≤ 70000 → n = S) ∧ (70000 < S → 70000 ≤ n)
theorem Cut.step {n S k : Int} (h : Cut n S) (h0 : 0 ≤ k) (h1 : k ≤ 66000) : Cut (min n 70000 + k) (S + k) := by unfold Cut at *; omega
end Go.Pw.Sc

namespace Go.Pw.Sc
theorem bv_take (xs : List Int) (n : Nat) : (bv xs).take n = bv (xs.take n) := by simp [bv, List.map_take]
theorem bv_drop (xs : List Int) (n : Nat) : (bv xs).drop n = bv (xs.drop n) := by simp [bv, List.map_drop]
theorem BS.hi {L : Chunk} {v : Value} {xs : List Int} (h : BS L v xs) {n : Nat} (hn : n ≤ xs.length) : BS L (slV v 0 n 1) (xs.take n) := by
 refine ⟨?_, fun x hx => h.byt x (List.mem_of_mem_take hx), ?_⟩
 ·have := h.rd.sl (lo := 0) (hi := n) (by omega) hn
  rw [Nat.zero_mul, List.drop_zero, Nat.sub_zero, Nat.mul_one, bv_take] at this
  rwa [List.length_take, Nat.min_eq_left hn]
 ·have := h.len; rw [List.length_take]; omega
theorem BS.lo {L : Chunk} {v : Value} {xs : List Int} (h : BS L v xs) {n : Nat} (hn : n ≤ xs.length) : BS L (slV v n xs.length 1) (xs.drop n) := by
 refine ⟨?_, fun x hx => h.byt x (List.mem_of_mem_drop hx), ?_⟩
 ·have := h.rd.sl (lo := n) (hi := xs.length) hn (Nat.le_refl _)
  rw [Nat.mul_one, Nat.mul_one, bv_drop, bv_take, List.take_of_length_le (by simp)] at this
  rwa [List.length_drop]
 ·have := h.len; rw [List.length_drop]; omega
theorem Row.bs {e : TypeId} {N : Chunk} {v : Value} {k : Nat} {ys : List Int} (h : Row e 1 N v k (bv ys)) (hb : Byt8 ys) (hl : (ys.length : Int) ≤ 9223372036854775807) : BS N v ys := by
 have e1 := h.1
 rw [bv_length, Nat.mul_one] at e1
 exact ⟨by rw [e1]; exact h.rd, hb, hl⟩
theorem RdP.small {xs xs' : List Int} {b b' : Bool} {n : Int} (h : RdP (numP 4) xs b n xs' b') (hn : n ≤ most) : RdP smallP xs b n xs' b' :=
 ⟨fun e => (h.1 e).imp id fun h => by simp [smallP, h], fun e => ⟨(h.2 e).1, by simp [smallP, (h.2 e).2, hn]⟩⟩
theorem RdP.to {α : Type} {p q : Pa α} {xs xs' : List Int} {b b' : Bool} {a : α} (h : RdP p xs b a xs' b') (e : p = q) : RdP q xs b a xs' b' := e ▸ h
section rd
variable {xs xs1 xs2 xs3 xs4 xs5 xs6 xs7 : List Int} {b b1 b2 b3 b4 b5 b6 b7 : Bool}
end rd
theorem TR.lit {k s q th hs hg ok at_ sz mu ma : Int} {b d : List Int} (h1 : inR .i64 k) (h2 : inR .i64 s) (h3 : inR .i64 q) (h4 : inR .i64 th) (h5 : inR .i64 hs) (h6 : inR .i64 hg) (h7 : inR .i64 ok) (h8 : inR .u32 at_) (h9 : inR .u64 sz) (h10 : inR .u64 mu) (h11 : inR .u64 ma) :
  TR ⟨k, s, q, th, hs, hg, ok, at_, sz, mu, ma, b, d⟩ := ⟨h1, h2, h3, h4, h5, h6, h7, h8, h9, h10, h11⟩
end Go.Pw.Sc

namespace Go.Pw.Sc
def LeP {α : Type} (p : Pa α) : Prop := ∀ xs a r, p xs = some (a, r) → r.length ≤ xs.length
theorem leP_take (n : Nat) : LeP (takeP n) := fun xs a r h => by
 obtain ⟨rfl, _⟩ := takeP_inv h
 simp
theorem leP_num (w : Nat) : LeP (numP w) := fun xs a r h => by
 unfold numP at h
 cases h1 : takeP w xs with
 | none => rw [h1] at h; cases h
 | some q =>
  rw [h1] at h
  simp only [Option.map_some, Option.some.injEq, Prod.mk.injEq] at h
  rw [← h.2]
  exact leP_take w xs q.1 q.2 h1
theorem num1_lt {xs r : List Int} {a : Int} (h : numP 1 xs = some (a, r)) : r.length < xs.length := by
 unfold numP at h
 cases h1 : takeP 1 xs with
 | none => rw [h1] at h; cases h
 | some q =>
  rw [h1] at h
  simp only [Option.map_some, Option.some.injEq, Prod.mk.injEq] at h
  obtain ⟨e, hl⟩ := takeP_inv (a := q.1) (r := q.2) h1
  rw [← h.2, e, List.length_append]
  omega
theorem leP_small : LeP smallP := fun xs a r h => by
 unfold smallP at h
 cases h1 : numP 4 xs with
 | none => rw [h1] at h; cases h
 | some q =>
  rw [h1, Option.bind_some] at h
  simp only at h
  split at h
  ·simp only [Option.some.injEq, Prod.mk.injEq] at h
   rw [← h.2]
   exact leP_num 4 xs q.1 q.2 h1
  ·cases h
theorem leP_ret {α : Type} (a : α) : LeP (ret a) := fun xs b r h => by obtain ⟨_, rfl⟩ := ret_inv h; exact Nat.le_refl _
theorem leP_bind {α β : Type} {p : Pa α} {f : α → Pa β} (hp : LeP p) (hf : ∀ a, LeP (f a)) : LeP (bind p f) := fun xs b r h => by
 obtain ⟨a, r1, h1, h2⟩ := bind_inv h
 have := hp _ _ _ h1
 have := hf a _ _ _ h2
 omega
theorem leP_when {α : Type} {c : Prop} [Decidable c] {p : Pa α} {d : α} (hp : LeP p) : LeP (whenP c p d) := by
 unfold whenP
 split
 ·exact hp
 ·exact leP_ret d
theorem leP_hand : LeP handP := leP_bind (leP_num 1) fun _ => leP_bind leP_small fun _ => leP_ret _
theorem leP_op : LeP opP := leP_bind (leP_num 1) fun _ => leP_bind (leP_num 4) fun _ => leP_bind (leP_num 8) fun _ => leP_bind (leP_num 8) fun _ => leP_bind (leP_num 8) fun _ => leP_bind (leP_num 2) fun _ => leP_bind (leP_take _) fun _ => leP_ret _
theorem leP_draw : LeP drawP := leP_bind (leP_num 1) fun _ => leP_take _
theorem turnP_lt {xs r : List Int} {t : Turn} (h : turnP xs = some (t, r)) : r.length < xs.length := by
 unfold turnP at h
 obtain ⟨k, r1, h1, h2⟩ := bind_inv h
 have hlt := num1_lt h1
 have hle : r.length ≤ r1.length := by
  split at h2
  ·cases h2
  ·split at h2
   ·exact leP_bind (leP_num 1) (fun _ => leP_bind leP_small fun _ => leP_ret _) _ _ _ h2
   ·exact leP_bind (leP_when (leP_num 1)) (fun _ => leP_bind (leP_when leP_hand) fun _ => leP_bind (leP_when leP_op) fun _ => leP_bind (leP_when leP_draw) fun _ => leP_ret _) _ _ _ h2
 omega
theorem turnsP_fuel : ∀ (f g : Nat) (xs : List Int), xs.length < f → xs.length < g → turnsP f xs = turnsP g xs
 | f + 1, g + 1, xs, hf, hg => by
  rw [turnsP, turnsP]
  split
  ·rfl
  ·cases h : turnP xs with
   | none => rfl
   | some q =>
    have := turnP_lt (t := q.1) (r := q.2) h
    simp only [Option.bind_some]
    rw [turnsP_fuel f g q.2 (by omega) (by omega)]
 | 0, _, _, h, _ => by omega
 | _ + 1, 0, _, _, h => by omega
def turnsQ (xs : List Int) : Option (List Turn) := turnsP (xs.length + 1) xs
theorem turnsQ_some {xs r : List Int} {t : Turn} (h : turnP xs = some (t, r)) : turnsQ xs = (turnsQ r).map (t :: ·) := by
 have hlt := turnP_lt h
 have hne : xs ≠ [] := fun e => by rw [e] at hlt; simp at hlt
 unfold turnsQ
 rw [turnsP, if_neg hne, h, Option.bind_some]
 show Option.map _ (turnsP xs.length r) = _
 rw [turnsP_fuel xs.length (r.length + 1) r hlt (by omega)]
theorem turnsQ_none {xs : List Int} (hne : xs ≠ []) (h : turnP xs = none) : turnsQ xs = none := by
 unfold turnsQ; rw [turnsP, if_neg hne, h]; rfl
def Far (xs0 : List Int) (b0 : Bool) (ts : List Turn) (xs : List Int) (b : Bool) : Prop :=
 (b = false → b0 = false ∧ turnsQ xs0 = (turnsQ xs).map (ts ++ ·)) ∧ (b = true → b0 = true ∨ turnsQ xs0 = none)
theorem Far.step {xs0 xs xs' : List Int} {b0 b' : Bool} {ts : List Turn} {t : Turn} (h : Far xs0 b0 ts xs false) (hne : xs ≠ []) (hr : RdP turnP xs false t xs' b') : Far xs0 b0 (ts ++ [t]) xs' b' := by
 obtain ⟨h0, h1⟩ := h.1 rfl
 refine ⟨fun e => ⟨h0, ?_⟩, fun e => .inr ?_⟩
 ·rw [h1, turnsQ_some (hr.2 e).2]; simp [Function.comp_def]
 ·rw [h1, turnsQ_none hne ((hr.1 e).resolve_left (by simp))]; rfl
theorem LR.lit {a b c d : Int} {ts : List Turn} (h1 : inR .i64 a) (h2 : inR .u64 b) (h3 : inR .i64 c) (h4 : inR .i64 d) : LR ⟨a, b, c, d, ts⟩ := ⟨h1, h2, h3, h4⟩
theorem LR.zero : LR Life.zero := LR.lit ⟨by decide, by decide⟩ ⟨by decide, by decide⟩ ⟨by decide, by decide⟩ ⟨by decide, by decide⟩
end Go.Pw.Sc

namespace Go.Pw.Sc
def VS (L : Chunk) : List Value → List (List Int) → Prop
 | [], [] => True
 | v :: vs, xs :: xss => BS L v xs ∧ VS L vs xss
 | _, _ => False
theorem VS.length {L : Chunk} : ∀ {vs : List Value} {xss : List (List Int)}, VS L vs xss → vs.length = xss.length
 | [], [], _ => rfl
 | _ :: _, _ :: _, h => by simp [VS.length h.2]
 | [], _ :: _, h => h.elim
 | _ :: _, [], h => h.elim
theorem VS.get {L : Chunk} : ∀ {vs : List Value} {xss : List (List Int)} (i : Nat) (hi : i < xss.length), VS L vs xss → ∃ v, vs[i]? = some v ∧ BS L v xss[i]
 | v :: _, _ :: _, 0, _, h => ⟨v, rfl, h.1⟩
 | _ :: _, _ :: _, i + 1, hi, h => by
  obtain ⟨v, h1, h2⟩ := VS.get i (by simpa using hi) h.2
  exact ⟨v, by simpa using h1, h2⟩
 | [], _ :: _, _, _, h => h.elim
theorem VS.mono {L L' : Chunk} (hm : ∀ p ∈ L, p ∈ L') : ∀ {vs : List Value} {xss : List (List Int)}, VS L vs xss → VS L' vs xss
 | [], [], _ => trivial
 | _ :: _, _ :: _, h => ⟨@BS.to _ _ _ _ h.1 ⟨hm⟩, VS.mono hm h.2⟩
 | [], _ :: _, h => h.elim
 | _ :: _, [], h => h.elim
theorem VS.sng {L : Chunk} : ∀ {vs : List Value} {xss : List (List Int)}, VS L vs xss → ∀ v ∈ vs, Sng v
 | _ :: _, _ :: _, h, v, hv => by
  rcases List.mem_cons.1 hv with rfl | hv
  ·exact h.1.sng
  ·exact VS.sng h.2 v hv
 | [], _, _, v, hv => by cases hv
end Go.Pw.Sc

namespace Go.Pw.Sc
end Go.Pw.Sc

namespace Go.Pw.Sc
section
variable {xs xs1 xs2 xs3 xs4 : List Int} {k : Int}
end
end Go.Pw.Sc

namespace Go.Pw.Sc
section
variable {xs xs1 xs2 xs3 xs4 : List Int} {a b c d : Int}
end
end Go.Pw.Sc

namespace Go.Pw.Sc
def t0 : Turn := ⟨4, 0, 0, 5, 0, 0, 0, 0, 0, 0, 0, [], []⟩
def l0 : Life := ⟨1, 2, 3, 4, [t0]⟩
def b0 : List Int := [1, 0, 0, 0, 2, 0, 0, 0, 0, 0, 0, 0, 3, 0, 0, 0, 4, 0, 0, 0, 4, 5]
end Go.Pw.Sc

namespace Go.Pw.Sc
theorem TurnsAt.tr {L : Chunk} : ∀ {xs : List Value} {ts : List Turn}, TurnsAt L xs ts → ∀ t ∈ ts, TR t
 | _, _ :: _, ⟨c, r, _, ⟨_, _, _, _, _, h⟩, h2⟩, t, ht => by
  rcases List.mem_cons.1 ht with rfl | ht
  ·exact h
  ·exact TurnsAt.tr h2 t ht
theorem TS.tr {L : Chunk} {v : Value} {ts : List Turn} (h : TS L v ts) : ∀ t ∈ ts, TR t := by obtain ⟨xs, _, h⟩ := h.rd; exact h.tr
theorem TurnsAt.byt {L : Chunk} : ∀ {xs : List Value} {ts : List Turn}, TurnsAt L xs ts → ∀ t ∈ ts, Byt8 t.obytes ∧ Byt8 t.draws
 | _, _ :: _, ⟨c, r, _, ⟨_, _, _, h1, h2, _⟩, h3⟩, t, ht => by
  rcases List.mem_cons.1 ht with rfl | ht
  ·exact ⟨h1.byt, h2.byt⟩
  ·exact TurnsAt.byt h3 t ht
theorem TS.byt {L : Chunk} {v : Value} {ts : List Turn} (h : TS L v ts) : ∀ t ∈ ts, Byt8 t.obytes ∧ Byt8 t.draws := by obtain ⟨xs, _, h⟩ := h.rd; exact h.byt
end Go.Pw.Sc

namespace Go.Pw
open Go.ChangeShapes Go.WideShapes Go.Pw.Sc
def whole (w : World) : Chunk := w.heap.toList.zipIdx.map fun p => (p.2, p.1)
theorem mem_whole {w : World} {b : Nat} {o : Obj} : (b, o) ∈ whole w ↔ w.heap[b]? = some o := by
 unfold whole
 rw [List.mem_map]
 constructor
 ·rintro ⟨⟨o', i⟩, h, e⟩
  simp only [Prod.mk.injEq] at e
  obtain ⟨rfl, rfl⟩ := e
  have := List.mk_mem_zipIdx_iff_getElem?.1 h
  simpa using this
 ·intro h
  exact ⟨(o, b), List.mk_mem_zipIdx_iff_getElem?.2 (by simpa using h), rfl⟩
theorem st_whole (w : World) : St w w (whole w) := by
 refine ⟨rfl, rfl, ?_, fun b o h => mem_whole.1 h⟩
 have e : (whole w).map Prod.fst = List.range' 0 w.heap.toList.length := by
  unfold whole
  rw [List.map_map]
  exact List.zipIdx_map_snd 0 w.heap.toList
 rw [e]
 exact List.nodup_range'
theorem whole_kept {w w' : World} (h : Pn w' (whole w)) (i : Nat) (hi : i < w.heap.size) : w'.heap[i]? = w.heap[i]? := by
 have h1 : w.heap[i]? = some w.heap[i] := by simp [hi]
 rw [h1]
 exact h i _ (mem_whole.2 h1)
section
variable {H : Type} {enc : TypeId × Value → H} {P : Program} {w : World} {base : Nat} {spare : Nat → Bool} {held : Bool}
theorem cell_block {w : World} {a : Addr} {v : Value} (h : w.cell? a = some v) : ∃ c e fr, w.heap[a.block]? = some (.cells c e fr) ∧ a.spot = none ∧ c[a.off]? = some v := by
 unfold World.cell? at h
 split at h
 ·rename_i c e fr hh
  split at h
  ·cases h
  ·rename_i hs
   exact ⟨c, e, fr, hh, by simpa using hs, h⟩
 ·cases h
theorem add_block (a : Addr) (i : Nat) : (a.add i).block = a.block := by unfold Addr.add; split <;> rfl
theorem add_plain {b k i : Nat} : (⟨b, k, none⟩ : Addr).add i = ⟨b, k + i, none⟩ := by unfold Addr.add; split <;> simp_all
theorem add_spot {a : Addr} {i : Nat} (h : (a.add i).spot = none) (hi : i = 0) : a.spot = none := by subst hi; simpa [Addr.add] using h
theorem cells_row {w : World} {a : Addr} {n : Nat} {V : Nat → Value} (hn : 0 < n) (h : ∀ i, i < n → w.cell? (a.add i) = some (V i)) :
  ∃ b k c e fr, a = ⟨b, k, none⟩ ∧ w.heap[b]? = some (.cells c e fr) ∧ k + n ≤ c.size ∧ (c.toList.drop k).take n = (List.range n).map V := by
 obtain ⟨c, e, fr, h1, h2, h3⟩ := cell_block (h 0 hn)
 rw [add_block] at h1
 have hsp : a.spot = none := add_spot h2 rfl
 obtain ⟨b, k, sp⟩ := a
 simp only at hsp h1
 subst hsp
 have hall : ∀ i, i < n → c[k + i]? = some (V i) := fun i hi => by
  obtain ⟨c', e', fr', g1, g2, g3⟩ := cell_block (h i hi)
  rw [add_plain] at g1 g3
  simp only at g1 g3
  rw [h1] at g1
  cases g1
  exact g3
 have hsz : k + n ≤ c.size := by
  have := hall (n - 1) (by omega)
  have := (Array.getElem?_eq_some_iff.1 this).1
  omega
 refine ⟨b, k, c, e, fr, rfl, h1, hsz, ?_⟩
 apply List.ext_getElem?
 intro i
 by_cases hi : i < n
 ·rw [List.getElem?_take, if_pos hi, List.getElem?_drop]
  have := hall i hi
  simp [hi]
  simpa using this
 ·rw [List.getElem?_take, if_neg hi]
  simp [hi]
theorem byt_of_trod {t e : TypeId} {fuel : Nat} {cs : List Value} {x : DataW H × List MemPlace} (ht : P.underlying t = some (.slice e)) (he : P.underlying e = some (.int .u8)) (hc : P.cellsOf e = 1)
  (h : DataW.trod enc P w base spare held fuel t cs = some x) : ∃ v xs, cs = [v] ∧ BS (whole w) v xs := by
 rcases Go.Deep.open_slice1 ht hc h with ⟨rfl, _⟩ | ⟨a, len, cap, m, n, V, D, Pl, rfl, hb, hl, hm, hmm, _, hx⟩
 ·exact ⟨_, [], rfl, BS.nil _⟩
 ·have hle : len ≤ m := by rw [hmm]; split <;> omega
  have hcap : (cap : Int) ≤ 9223372036854775807 := by have : cap ≤ maxLen := hm; unfold maxLen at this; omega
  by_cases h0 : len = 0
  ·subst h0
   exact ⟨_, [], rfl, ⟨⟨rfl, .inl ⟨⟨_, _, rfl⟩, rfl⟩⟩, fun _ h => (by cases h), by simp⟩⟩
  ·obtain ⟨f, hf⟩ := Go.Deep.choose_lt (α := Int) (n := m) (p := fun i k => V i = .int .u8 k ∧ 0 ≤ k ∧ k ≤ 255) (fun i hi => by
    obtain ⟨k, e1, _, hw⟩ := DataW.trod_int he (hx i hi).2
    have := bounds_u8 hw
    exact ⟨k, by simpa using e1, this.1, this.2⟩)
   obtain ⟨b, k, c, ee, fr, rfl, h1, h2, h3⟩ := cells_row (w := w) (a := a) (n := len) (V := V) (by omega) (fun i hi => (hx i (by omega)).1)
   refine ⟨_, (List.range len).map f, rfl, ⟨⟨by simp [bv], .inr ⟨b, k, cap, c, ee, fr, by simp, mem_whole.2 h1, by simp; omega, ?_, by simp; omega⟩⟩, ?_, by simp; omega⟩⟩
   ·simp only [List.length_map, List.length_range, Nat.mul_one]
    rw [h3]
    unfold bv
    rw [List.map_map]
    exact List.map_congr_left fun i hi => (hf i (by have := List.mem_range.1 hi; omega)).1
   ·intro y hy
    obtain ⟨i, hi, rfl⟩ := List.mem_map.1 hy
    have := hf i (by have := List.mem_range.1 hi; omega)
    exact ⟨this.2.1, by omega⟩
theorem field_of {fs : Array Field} {t : TypeId} {fuel : Nat} {cs : List Value} {x : DataW H × List MemPlace} (ht : P.underlying t = some (.struct fs)) (h : DataW.trod enc P w base spare held fuel t cs = some x) :
  cs.length = P.cellsOf t ∧ ∃ n, ∀ (i : Nat) (f : Field), fs[i]? = some f → ∃ y, DataW.trod enc P w base spare held n f.type ((cs.drop f.offset).take (P.cellsOf f.type)) = some y := by
 obtain ⟨xs, n, _, _, h1, h2, h3⟩ := DataW.trod_struct ht h
 refine ⟨h1, n, fun i f hf => ?_⟩
 have hi : i < xs.length := by rw [h2]; exact (Array.getElem?_eq_some_iff.1 hf).1
 exact ⟨xs[i], by rw [h3 i f hf, List.getElem?_eq_getElem hi]⟩
theorem i64_of {t : TypeId} {fuel : Nat} {cs : List Value} {x : DataW H × List MemPlace} (ht : P.underlying t = some (.int .i64)) (h : DataW.trod enc P w base spare held fuel t cs = some x) : ∃ n, cs = [.int .i64 n] ∧ inR .i64 n :=
 let ⟨n, h1, _, h2⟩ := DataW.trod_int ht h; ⟨n, h1, bounds_i64 h2⟩
theorem u32_of {t : TypeId} {fuel : Nat} {cs : List Value} {x : DataW H × List MemPlace} (ht : P.underlying t = some (.int .u32)) (h : DataW.trod enc P w base spare held fuel t cs = some x) : ∃ n, cs = [.int .u32 n] ∧ inR .u32 n :=
 let ⟨n, h1, _, h2⟩ := DataW.trod_int ht h; ⟨n, h1, bounds_u32 h2⟩
theorem u64_of {t : TypeId} {fuel : Nat} {cs : List Value} {x : DataW H × List MemPlace} (ht : P.underlying t = some (.int .u64)) (h : DataW.trod enc P w base spare held fuel t cs = some x) : ∃ n, cs = [.int .u64 n] ∧ inR .u64 n :=
 let ⟨n, h1, _, h2⟩ := DataW.trod_int ht h; ⟨n, h1, bounds_u64 h2⟩
end
theorem keptBut_of {w w' : World} {may : MemPlace → Prop} (h1 : w'.os = w.os) (h2 : w'.output = w.output) (h : ∀ i, i < w.heap.size → w'.heap[i]? = w.heap[i]?) : w.keptBut w' may := by
 refine ⟨h1, h2, fun i hi => ?_⟩
 rw [h i hi]
 cases hh : w.heap[i]? with
 | none => rfl
 | some o => cases o <;> first | exact ⟨rfl, rfl, rfl, fun _ _ => rfl⟩ | exact Or.inr ⟨rfl, rfl⟩ | rfl
theorem sameAt_of {w w' : World} (h : ∀ i, i < w.heap.size → w'.heap[i]? = w.heap[i]?) {p : MemPlace} (hp : p.block < w.heap.size) : w.sameAt w' p := by
 cases p with
 | cell b off =>
  show w'.cell? ⟨b, off, none⟩ = w.cell? ⟨b, off, none⟩
  have h1 : w'.heap[b]? = w.heap[b]? := h b hp
  simp only [World.cell?, h1]
 | map b => exact h b hp
theorem trod_kept {H : Type} {enc : TypeId × Value → H} {P : Program} {t : TypeId} (hl : laidOutB P = true) (hr : P.readableRec t = true) (hrow : t < P.types.size) {W W' : World} {v : Value} {d : DataW H} {ps : List MemPlace}
  (h : DataW.Trod enc P W 0 (fun _ => true) true t v d ps) (hk : ∀ i, i < W.heap.size → W'.heap[i]? = W.heap[i]?) (hlt : ∀ x ∈ ps, x.block < W.heap.size) :
  DataW.Trod enc P W' 0 (fun b => decide (b < W.heap.size)) true t v d ps :=
 WideElems.Trod_stays hl hr hrow h (fun x hx => sameAt_of hk (hlt x hx)) (fun x hx => by simpa using hlt x hx)
theorem law_end {W : World} {L : Chunk} {e : Ending} {W' : World} (h : endR W (fun v L' => v = .bool true ∧ L = L') noPanic e W') : e = .returned (.bool true) ∧ St W W' L := by
 cases e with
 | returned v => obtain ⟨L', a, rfl, rfl⟩ := h; exact ⟨rfl, a⟩
 | panicked ch => obtain ⟨L', _, h⟩ := h; exact h.elim
 | outgrown => exact h.elim
end Go.Pw

namespace Go.Pw.Md
structure Pc where
 ad : Int
 size : Int
 room : Int
 b : List Int
 deriving DecidableEq
structure OpM where
 kind : Int
 ad : Int
 size : Int
 mult : Int
 many : Int
 bytes : List Int
structure OutM where
 errno : Int
 ad : Int
 n : Int
 bytes : List Int
structure NeedM where
 small : Bool
 cls : Int
 pages : Int
 charge : Int
structure Mod where
 slot : Int
 quota : Int
 L : List Pc
 deriving DecidableEq
def pay (k : Int) : Int := if k = 0 then 16 else if k = 1 then 32 else if k = 2 then 48 else if k = 3 then 64 else if k = 4 then 96 else if k = 5 then 128 else if k = 6 then 192 else 256
def clsOf (n : Int) : Int := if n ≤ 16 then 0 else if n ≤ 32 then 1 else if n ≤ 48 then 2 else if n ≤ 64 then 3 else if n ≤ 96 then 4 else if n ≤ 128 then 5 else if n ≤ 192 then 6 else 7
def isMult (m : Int) : Prop := m = 1 ∨ m = 2 ∨ m = 4 ∨ m = 8 ∨ m = 16 ∨ m = 32 ∨ m = 64 ∨ m = 128 ∨ m = 256
instance (m : Int) : Decidable (isMult m) := by unfold isMult; infer_instance
def needOf (size mult : Int) : Option NeedM :=
 if 262144 < size ∨ ¬ isMult mult then none
 else if max 1 size ≤ 256 ∧ mult ≤ 16 then some ⟨true, clsOf (max 1 size), 0, pay (clsOf (max 1 size))⟩
 else some ⟨false, 0, (max 1 size + 255) / 256, (max 1 size + 255) / 256 * 256⟩
def slotKind (s p : Int) : Int :=
 if 64 * s + 1 ≤ p ∧ p < 64 * s + 49 then 1
 else if 0 < p - 4096 * (s + 1) ∧ (p - 4096 * (s + 1) - 1) / 17 < 8 ∧ (p - 4096 * (s + 1) - 1) % 17 < 16 then 2
 else if 256 ≤ p - 4096 * (s + 1) ∧ p - 4096 * (s + 1) < 4096 then 3
 else if 0 ≤ p - 4096 * (s + 1) ∧ p - 4096 * (s + 1) < 4096 then 4 else 0
def site (p : Int) : Int × Int :=
 if slotKind 0 p ≠ 0 then (slotKind 0 p, 0) else if slotKind 1 p ≠ 0 then (slotKind 1 p, 1) else if slotKind 2 p ≠ 0 then (slotKind 2 p, 2) else if slotKind 3 p ≠ 0 then (slotKind 3 p, 3) else (0, 0)
def pagesN (ad charge : Int) : Nat := ((ad + charge - 1) / 256 - ad / 256 + 1).toNat
def fitsP (slot : Int) (L : List Pc) (x : NeedM) (mult ad : Int) : Prop :=
 ad % 16 = 0 ∧ ad % mult = 0 ∧ ad + x.charge ≤ 16777216 ∧ (∀ i : Nat, i < pagesN ad x.charge → site (ad / 256 + i) = (if x.small then 2 else 3, slot)) ∧
  ∀ p ∈ L, ¬ (ad < p.ad + p.room ∧ p.ad < ad + x.charge)
instance (slot : Int) (L : List Pc) (x : NeedM) (mult ad : Int) : Decidable (fitsP slot L x mult ad) := by unfold fitsP; infer_instance
def noneO (o : OutM) : Prop := o.ad = 0 ∧ o.n = 0 ∧ o.bytes = []
instance (o : OutM) : Decidable (noneO o) := by unfold noneO; infer_instance
def bareO (o : OutM) (l : List Int) : Prop := noneO o ∧ o.errno ∈ l
instance (o : OutM) (l : List Int) : Decidable (bareO o l) := by unfold bareO; infer_instance
def Mod.charge (m : Mod) : Int := (m.L.map Pc.room).sum
def ins (p : Pc) : List Pc → List Pc
 | [] => [p]
 | q :: l => if p.ad < q.ad then p :: q :: l else q :: ins p l
def Mod.find (m : Mod) (a : Int) : Option Pc := m.L.find? fun p => decide (p.ad = a)
def Mod.inn (m : Mod) (a : Int) : Option Pc := m.L.find? fun p => decide (p.ad ≤ a ∧ a < p.ad + p.room)
def Mod.without (m : Mod) (a : Int) : Mod := { m with L := m.L.filter fun p => decide (p.ad ≠ a) }
def piece (ad size charge : Int) (b : List Int) : Pc := ⟨ad, max 1 size, charge, b ++ List.replicate (charge - b.length).toNat (-1)⟩
def handed (m : Mod) (x : NeedM) (size mult less : Int) (o : OutM) (b : List Int) : Mod × Bool :=
 if m.quota < m.charge - less + x.charge then (m, decide (bareO o [301]))
 else if o.errno ≠ 0 then (m, decide (bareO o [171, if x.small then 261 else 270]))
 else if o.n = 0 ∧ o.bytes = [] ∧ fitsP m.slot m.L x mult o.ad then ({ m with L := ins (piece o.ad size x.charge b) m.L }, true)
 else (m, false)
def over (a : Int) (bs : List Int) (p : Pc) : Pc :=
 { p with b := p.b.zipIdx.map fun x => if a ≤ p.ad + (x.2 : Int) ∧ p.ad + (x.2 : Int) < a + bs.length then bs.getD (p.ad + x.2 - a).toNat 0 else x.1 }
def agrees (a : Int) (bs : List Int) (p : Pc) : Prop :=
 ∀ d : Nat, d < p.b.length → a ≤ p.ad + (d : Int) → p.ad + (d : Int) < a + bs.length → p.b.getD d 0 = -1 ∨ p.b.getD d 0 = bs.getD (p.ad + d - a).toNat 0
instance (a : Int) (bs : List Int) (p : Pc) : Decidable (agrees a bs p) := by unfold agrees; infer_instance
def reach (m : Mod) (ad many : Int) : Int × List Int :=
 if many < 1 ∨ 16777216 < many then (2, [])
 else if 16777216 - many < ad then (4, [])
 else match m.inn ad with
  | some p => if ad + many ≤ p.ad + p.room then (0, []) else (0, [190])
  | none => (0, [190])
def access (m : Mod) (kind ad : Int) (o : OutM) (bs : List Int) (many : Int) : Mod × Bool :=
 if (reach m ad many).1 ≠ 0 then (m, decide (bareO o [(reach m ad many).1]))
 else if o.errno ≠ 0 then (m, decide (bareO o (reach m ad many).2))
 else if o.ad ≠ 0 ∨ o.n ≠ 0 ∨ (bs.length : Int) ≠ many then (m, false)
 else if kind = 7 ∨ ∀ p ∈ m.L, agrees ad bs p then ({ m with L := m.L.map (over ad bs) }, true)
 else (m, false)
def realloc (m : Mod) (x : OpM) (o : OutM) : Mod × Bool :=
 match m.find x.ad with
 | none => (m, decide (bareO o [320]))
 | some p => match needOf x.size 1 with
  | none => (m, decide (bareO o [2]))
  | some nd =>
   if nd.small = false ∧ (site (p.ad / 256)).1 = 3 ∧ p.room = nd.charge then
    if o.errno = 0 ∧ o.ad = p.ad ∧ o.n = 0 ∧ o.bytes = [] then ({ m with L := m.L.map fun q => if q.ad = p.ad then { q with size := max 1 x.size } else q }, true) else (m, false)
   else
    let r := handed m nd x.size 1 p.room o (p.b.take (min p.size (max 1 x.size)).toNat)
    if r.2 = true ∧ o.errno = 0 then (r.1.without p.ad, true) else r
def total (many each : Int) : Option Int := if 262144 < many * each then none else some (many * each)
def step (m : Mod) (x : OpM) (o : OutM) : Mod × Bool :=
 if x.kind = 1 then
  match needOf x.size x.mult with
  | none => (m, decide (bareO o [2]))
  | some nd => handed m nd x.size x.mult 0 o []
 else if x.kind = 2 then
  match total x.many x.size with
  | none => (m, decide (bareO o [2]))
  | some t => match needOf t 1 with
   | none => (m, false)
   | some nd => handed m nd t 1 0 o (List.replicate nd.charge.toNat 0)
 else if x.kind = 3 then
  match m.find x.ad with
  | none => (m, decide (bareO o [320]))
  | some _ => if bareO o [0] then (m.without x.ad, true) else (m, false)
 else if x.kind = 4 then realloc m x o
 else if x.kind = 5 then
  match m.find x.ad with
  | none => (m, decide (bareO o [320]))
  | some p => (m, decide (o.errno = 0 ∧ o.ad = 0 ∧ o.bytes = [] ∧ o.n = p.room))
 else if x.kind = 6 then access m 6 x.ad o o.bytes x.many
 else if o.bytes ≠ [] then (m, false) else access m 7 x.ad o x.bytes x.bytes.length
structure PcOk (p : Pc) : Prop where
 ad : 0 ≤ p.ad
 room : 1 ≤ p.room
 fin : p.ad + p.room ≤ 16777216
 size1 : 1 ≤ p.size
 size2 : p.size ≤ p.room
 len : (p.b.length : Int) = p.room
 byt : ∀ x ∈ p.b, -1 ≤ x ∧ x ≤ 255
structure WF (m : Mod) : Prop where
 slot0 : 0 ≤ m.slot
 slot1 : m.slot < 4
 quota0 : 0 ≤ m.quota
 quota1 : m.quota ≤ 1073741824
 apart : m.L.Pairwise fun p q => p.ad + p.room ≤ q.ad
 ok : ∀ p ∈ m.L, PcOk p
 charge : m.charge ≤ m.quota
theorem pay_clsOf {n : Int} (h : n ≤ 256) : n ≤ pay (clsOf n) := by
 unfold clsOf; repeat' split
 all_goals simp [pay]
 all_goals omega
theorem pay_pos (k : Int) : 16 ≤ pay k ∧ pay k ≤ 256 := by
 unfold pay; repeat' split
 all_goals omega
theorem clsOf_range (n : Int) : 0 ≤ clsOf n ∧ clsOf n ≤ 7 := by
 unfold clsOf; repeat' split
 all_goals omega
theorem needOf_charge {size mult : Int} {nd : NeedM} (h : needOf size mult = some nd) : max 1 size ≤ nd.charge ∧ 16 ≤ nd.charge ∧ nd.charge ≤ 262144 := by
 unfold needOf at h
 split at h
 ·cases h
 ·rename_i h0
  split at h
  ·cases h
   rename_i h1
   have := pay_clsOf h1.1
   have := pay_pos (clsOf (max 1 size))
   exact ⟨by assumption, this.1, Int.le_trans this.2 (by omega)⟩
  ·cases h
   simp only
   omega
theorem needOf_one {t : Int} (h : t ≤ 262144) : ∃ nd, needOf t 1 = some nd := by
 unfold needOf
 rw [if_neg (by simp [isMult]; omega)]
 split <;> exact ⟨_, rfl⟩
theorem ins_perm (p : Pc) : ∀ l, (ins p l).Perm (p :: l)
 | [] => .refl _
 | q :: l => by
  unfold ins
  split
  ·exact .refl _
  ·exact ((ins_perm p l).cons q).trans (.swap p q l)
theorem sum_perm {l l' : List Pc} (h : l.Perm l') : (l.map Pc.room).sum = (l'.map Pc.room).sum := by
 induction h with
 | nil => rfl
 | cons x _ ih => simp [ih]
 | swap x y l => simp; omega
 | trans _ _ ih1 ih2 => exact ih1.trans ih2
theorem ins_apart {p : Pc} {l : List Pc} (hl : l.Pairwise fun p q => p.ad + p.room ≤ q.ad) (hok : ∀ q ∈ l, PcOk q) (h : ∀ q ∈ l, ¬ (p.ad < q.ad + q.room ∧ q.ad < p.ad + p.room)) (hp : 1 ≤ p.room) : (ins p l).Pairwise fun p q => p.ad + p.room ≤ q.ad := by
 induction l with
 | nil => simp [ins]
 | cons q l ih =>
  have hq := h q (List.mem_cons_self ..)
  have oq := hok q (List.mem_cons_self ..)
  have rq := oq.room
  rw [List.pairwise_cons] at hl
  unfold ins
  split
  ·refine List.pairwise_cons.2 ⟨fun r hr => ?_, List.pairwise_cons.2 hl⟩
   rcases List.mem_cons.1 hr with rfl | hr
   ·omega
   ·have := hl.1 r hr
    omega
  ·refine List.pairwise_cons.2 ⟨fun r hr => ?_, ih hl.2 (fun r hr => hok r (List.mem_cons_of_mem _ hr)) (fun r hr => h r (List.mem_cons_of_mem _ hr))⟩
   rcases List.mem_cons.1 ((ins_perm p l).mem_iff.1 hr) with rfl | hr
   ·omega
   ·exact hl.1 r hr
theorem piece_ok {ad size charge : Int} {b : List Int} (h0 : 0 ≤ ad) (h1 : ad + charge ≤ 16777216) (hs : max 1 size ≤ charge) (hb : (b.length : Int) ≤ charge) (hy : ∀ x ∈ b, -1 ≤ x ∧ x ≤ 255) : PcOk (piece ad size charge b) := by
 refine ⟨h0, ?_, h1, ?_, hs, ?_, ?_⟩
 ·simp only [piece]; omega
 ·simp only [piece]; omega
 ·simp only [piece, List.length_append, List.length_replicate]; omega
 ·intro x hx
  simp only [piece, List.mem_append, List.mem_replicate] at hx
  rcases hx with hx | ⟨_, rfl⟩
  ·exact hy x hx
  ·omega
theorem handed_wf {m : Mod} (hm : WF m) {x : NeedM} {size mult less : Int} {o : OutM} {b : List Int} (h0 : 0 ≤ o.ad) (hs : max 1 size ≤ x.charge) (hb : (b.length : Int) ≤ x.charge) (hy : ∀ z ∈ b, -1 ≤ z ∧ z ≤ 255) :
  (handed m x size mult less o b).2 = true → (o.errno ≠ 0 → (handed m x size mult less o b).1 = m) ∧ (o.errno = 0 → (handed m x size mult less o b).1 = { m with L := ins (piece o.ad size x.charge b) m.L } ∧ PcOk (piece o.ad size x.charge b) ∧ fitsP m.slot m.L x mult o.ad ∧ m.charge - less + x.charge ≤ m.quota) := by
 unfold handed
 intro h
 split
 ·rename_i h1
  rw [if_pos h1] at h
  simp only [decide_eq_true_eq, bareO, List.mem_singleton] at h
  exact ⟨fun _ => rfl, fun e => by omega⟩
 ·rename_i h1
  rw [if_neg h1] at h
  split
  ·rename_i h2
   exact ⟨fun _ => rfl, fun e => absurd e h2⟩
  ·rename_i h2
   rw [if_neg h2] at h
   split
   ·rename_i h3
    exact ⟨fun e => absurd e h2, fun _ => ⟨rfl, piece_ok h0 h3.2.2.2.2.1 hs hb hy, h3.2.2, by omega⟩⟩
   ·rename_i h3
    rw [if_neg h3] at h
    cases h
theorem ins_wf {m : Mod} (hm : WF m) {p : Pc} (hp : PcOk p) (hf : ∀ q ∈ m.L, ¬ (p.ad < q.ad + q.room ∧ q.ad < p.ad + p.room)) (hc : m.charge + p.room ≤ m.quota) : WF { m with L := ins p m.L } := by
 refine ⟨hm.slot0, hm.slot1, hm.quota0, hm.quota1, ins_apart hm.apart hm.ok hf hp.room, fun q hq => ?_, ?_⟩
 ·rcases List.mem_cons.1 ((ins_perm p m.L).mem_iff.1 hq) with rfl | hq
  ·exact hp
  ·exact hm.ok q hq
 ·have := sum_perm (ins_perm p m.L)
  unfold Mod.charge at *
  simp only at *
  rw [this]
  simp only [List.map_cons, List.sum_cons]
  omega
theorem sum_filter_le {l : List Pc} (hok : ∀ p ∈ l, PcOk p) (f : Pc → Bool) : ((l.filter f).map Pc.room).sum ≤ (l.map Pc.room).sum := by
 induction l with
 | nil => simp
 | cons q l ih =>
  have := ih fun p hp => hok p (List.mem_cons_of_mem _ hp)
  have r := (hok q (List.mem_cons_self ..)).room
  rw [List.filter_cons]
  split <;> simp only [List.map_cons, List.sum_cons] <;> omega
theorem without_wf {m : Mod} (hm : WF m) (a : Int) : WF (m.without a) :=
 ⟨hm.slot0, hm.slot1, hm.quota0, hm.quota1, hm.apart.filter _, fun q hq => hm.ok q (List.mem_filter.1 hq).1, by
  have := sum_filter_le hm.ok fun p => decide (p.ad ≠ a)
  have := hm.charge
  unfold Mod.charge Mod.without at *
  simp only at *
  omega⟩
theorem over_len (a : Int) (bs : List Int) (p : Pc) : (over a bs p).b.length = p.b.length := by simp [over]
theorem over_ok {a : Int} {bs : List Int} {p : Pc} (hp : PcOk p) (hb : ∀ x ∈ bs, 0 ≤ x ∧ x ≤ 255) : PcOk (over a bs p) := by
 refine ⟨hp.ad, hp.room, hp.fin, hp.size1, hp.size2, by rw [over_len]; exact hp.len, fun x hx => ?_⟩
 simp only [over, List.mem_map] at hx
 obtain ⟨⟨y, d⟩, hy, rfl⟩ := hx
 have hyb := List.mem_zipIdx hy
 split
 ·rename_i hr
  rw [List.getD_eq_getElem?_getD]
  cases hg : bs[(p.ad + (d : Int) - a).toNat]? with
  | none => simp
  | some z =>
   have := hb z (List.mem_of_getElem? hg)
   simp only [Option.getD_some]
   omega
 ·have : y ∈ p.b := by rw [hyb.2.2]; exact List.getElem_mem _
  exact hp.byt y this
theorem map_wf {m : Mod} (hm : WF m) {f : Pc → Pc} (hf : ∀ p ∈ m.L, PcOk (f p) ∧ (f p).ad = p.ad ∧ (f p).room = p.room) : WF { m with L := m.L.map f } := by
 refine ⟨hm.slot0, hm.slot1, hm.quota0, hm.quota1, ?_, fun q hq => ?_, ?_⟩
 ·simp only
  rw [List.pairwise_map]
  have := hm.apart
  refine List.Pairwise.imp_of_mem (fun {p q} hp hq h => ?_) this
  rw [(hf p hp).2.1, (hf p hp).2.2, (hf q hq).2.1]
  exact h
 ·obtain ⟨p, hp, rfl⟩ := List.mem_map.1 hq
  exact (hf p hp).1
 ·have h1 : ((m.L.map f).map Pc.room).sum = (m.L.map Pc.room).sum := by
   rw [List.map_map]
   congr 1
   exact List.map_congr_left fun p hp => (hf p hp).2.2
  have := hm.charge
  unfold Mod.charge at *
  simp only at *
  omega
theorem find_some {m : Mod} {a : Int} {p : Pc} (h : m.find a = some p) : p ∈ m.L ∧ p.ad = a := ⟨List.mem_of_find?_eq_some h, by simpa using List.find?_some h⟩
theorem find_none {m : Mod} {a : Int} (h : m.find a = none) : ∀ p ∈ m.L, p.ad ≠ a := fun p hp => by simpa using List.find?_eq_none.1 h p hp
theorem find_of {m : Mod} (hm : WF m) {p : Pc} (hp : p ∈ m.L) : m.find p.ad = some p := by
 cases h : m.find p.ad with
 | none => exact absurd rfl (find_none h p hp)
 | some q =>
  obtain ⟨h1, h2⟩ := find_some h
  congr 1
  have := hm.apart
  have key : ∀ (l : List Pc), (l.Pairwise fun p q => p.ad + p.room ≤ q.ad) → (∀ p ∈ l, PcOk p) → ∀ p ∈ l, ∀ q ∈ l, q.ad = p.ad → q = p := by
   intro l
   induction l with
   | nil => intro _ _ p hp; cases hp
   | cons x l ih =>
    intro hl hok p hp q hq e
    rw [List.pairwise_cons] at hl
    have ox := (hok x (List.mem_cons_self ..)).room
    rcases List.mem_cons.1 hp with rfl | hp1 <;> rcases List.mem_cons.1 hq with rfl | hq1
    ·rfl
    ·have := hl.1 q hq1; omega
    ·have := hl.1 p hp1; omega
    ·exact ih hl.2 (fun p hp => hok p (List.mem_cons_of_mem _ hp)) p hp1 q hq1 e
  exact key m.L this hm.ok p hp q h1 h2
theorem inn_some {m : Mod} {a : Int} {p : Pc} (h : m.inn a = some p) : p ∈ m.L ∧ p.ad ≤ a ∧ a < p.ad + p.room := ⟨List.mem_of_find?_eq_some h, by simpa using List.find?_some h⟩
theorem inn_none {m : Mod} {a : Int} (h : m.inn a = none) : ∀ p ∈ m.L, ¬ (p.ad ≤ a ∧ a < p.ad + p.room) := fun p hp => by simpa using List.find?_eq_none.1 h p hp
theorem apart_in {m : Mod} (hm : WF m) {a : Int} {p q : Pc} (hp : p ∈ m.L) (hq : q ∈ m.L) (h1 : p.ad ≤ a ∧ a < p.ad + p.room) (h2 : q.ad ≤ a ∧ a < q.ad + q.room) : q = p := by
 have key : ∀ (l : List Pc), (l.Pairwise fun p q => p.ad + p.room ≤ q.ad) → ∀ p ∈ l, ∀ q ∈ l, (p.ad ≤ a ∧ a < p.ad + p.room) → (q.ad ≤ a ∧ a < q.ad + q.room) → q = p := by
  intro l
  induction l with
  | nil => intro _ p hp; cases hp
  | cons x l ih =>
   intro hl p hp q hq e1 e2
   rw [List.pairwise_cons] at hl
   rcases List.mem_cons.1 hp with rfl | hp1 <;> rcases List.mem_cons.1 hq with rfl | hq1
   ·rfl
   ·have := hl.1 q hq1; omega
   ·have := hl.1 p hp1; omega
   ·exact ih hl.2 p hp1 q hq1 e1 e2
 exact key m.L hm.apart p hp q hq h1 h2
theorem inn_of {m : Mod} (hm : WF m) {a : Int} {p : Pc} (hp : p ∈ m.L) (h : p.ad ≤ a ∧ a < p.ad + p.room) : m.inn a = some p := by
 cases hi : m.inn a with
 | none => exact absurd h (inn_none hi p hp)
 | some q =>
  obtain ⟨h1, h2⟩ := inn_some hi
  rw [apart_in hm hp h1 h h2]
end Go.Pw.Md
