/- OrderCalls: true for every input; arguments as before. Part 21. Conditions: none. -/
import Derived.Test.YtmnhooepaemlcaaGreatOC2
import Derived.Test.YtmnhooepaemlcaaGreatOC3
import Derived.Test.YtmnhooepaemlcaaGreatOC7
import Derived.Test.YtmnhooepaemlcaaGreatOC20
set_option linter.all false
namespace Go.Proofs.YtmnhooepaemlcaaGreat
open Go Go.Pw Go.Pw.Sc Go.Pw.Md Go.Pw.Jd
set_option maxRecDepth 100000
set_option maxHeartbeats 4000000
set_option synthInstance.maxHeartbeats 400000
set_option synthInstance.maxSize 2000
attribute [local irreducible] CW OW RW thenK blockK
attribute [local irreducible] scopeK loopK TRW ATW
abbrev CE := Cl × Value × Value
@[reducible] def clE (e : CE) : List Value := clC e.1 e.2.1 e.2.2
theorem clE_len (e : CE) : (clE e).length = 13 := rfl
def CEs (es : List CE) : Prop := ∀ e ∈ es, Sng e.2.1 ∧ Sng e.2.2
theorem calls_es {n : Nat} {L : Chunk} : ∀ {xs : List Value} {cs : List Cl}, LAt 13 (ClAt n L) xs cs → ∃ es : List CE, xs = flR clE es ∧ es.map Prod.fst = cs ∧ ∀ e ∈ es, BS L e.2.1 e.1.op.bytes ∧ BS L e.2.2 e.1.out.bytes ∧ ClR n e.1
 | xs, [], h => ⟨[], h, rfl, fun _ h => (by cases h)⟩
 | _, a :: cs, ⟨c, r, e0, _, ⟨vx, vb, e1, h1, h2, h3⟩, h4⟩ => by
  subst e0 e1
  obtain ⟨es, rfl, rfl, h5⟩ := calls_es h4
  refine ⟨(a, vx, vb) :: es, by simp [flR], rfl, fun e he => ?_⟩
  rcases List.mem_cons.1 he with rfl | he
  ·exact ⟨h1, h2, h3⟩
  ·exact h5 e he
theorem jWk (c : Cl) (vx vb : Value) (L : Chunk) [s1 : Sng vx] [s2 : Sng vb] : Fn1 Tryz.prog 47 [.agg (clC c vx vb).toArray] L (fun u L' => u = .bool (decide (c.work < 0)) ∧ L = L') := by
 intro w0; refine Spec.enter1 Tryz.func47 rfl Tryz.ntmps47 (by decide) ?_
 by_cases h : c.work < 0
 ·rw [decide_eq_true h]
  repeat' (first|refine Ga0 fun _=>?_|refine Ga1 ?_|refine Ga2 (fun _=>?_) fun _=>?_|refine Ga3 ?_|refine Ga4 fun _=>?_|fail)
  exact bodyK.retD L (Res.one Tryz.results47) ⟨rfl, rfl⟩
 ·rw [decide_eq_false h]
  repeat' (first|refine Ga0 fun _=>?_|refine Ga1 ?_|refine Ga2 (fun _=>?_) fun _=>?_|refine Ga3 ?_|refine Ga4 fun _=>?_|fail)
  exact bodyK.retD L (Res.one Tryz.results47) ⟨rfl, rfl⟩
def asksC (c : Cl) : Prop := c.op.kind = 5 ∨ c.op.kind = 6
instance (c : Cl) : Decidable (asksC c) := by unfold asksC; infer_instance
theorem jAsks (c : Cl) (vx vb : Value) (L : Chunk) [s1 : Sng vx] [s2 : Sng vb] : Fn1 Tryz.prog 50 [.agg (clC c vx vb).toArray] L (fun u L' => u = .bool (decide (asksC c)) ∧ L = L') := by
 intro w0; refine Spec.enter1 Tryz.func50 rfl Tryz.ntmps50 (by decide) ?_
 by_cases h : c.op.kind = 5
 ·rw [show decide (asksC c) = true from decide_eq_true (.inl h)]
  repeat' (first|refine Ga0 fun _=>?_|refine Ga1 ?_|refine Ga2 (fun _=>?_) fun _=>?_|refine Ga3 ?_|refine Ga4 fun _=>?_|fail)
  exact bodyK.retD L (Res.one Tryz.results50) ⟨rfl, rfl⟩
 ·by_cases h2 : c.op.kind = 6
  ·rw [show decide (asksC c) = true from decide_eq_true (.inr h2)]
   repeat' (first|refine Ga0 fun _=>?_|refine Ga1 ?_|refine Ga2 (fun _=>?_) fun _=>?_|refine Ga3 ?_|refine Ga4 fun _=>?_|fail)
   exact bodyK.retD L (Res.one Tryz.results50) ⟨rfl, rfl⟩
  ·rw [show decide (asksC c) = false from decide_eq_false fun hh => hh.elim h h2]
   repeat' (first|refine Ga0 fun _=>?_|refine Ga1 ?_|refine Ga2 (fun _=>?_) fun _=>?_|refine Ga3 ?_|refine Ga4 fun _=>?_|fail)
   exact bodyK.retD L (Res.one Tryz.results50) ⟨rfl, rfl⟩
def lateC (c : Cl) : Prop := c.told = true ∧ 9 < c.steps
instance (c : Cl) : Decidable (lateC c) := by unfold lateC; infer_instance
def IdxC (p : Cl → Bool) (es : List CE) (j : Int) : Prop := (j = -1 ∧ ∀ e ∈ es, p e.1 = false) ∨ ∃ i : Nat, ∃ h : i < es.length, j = i ∧ p es[i].1 = true ∧ ∀ e ∈ es.take i, p e.1 = false
theorem jIndexC (v fv : Value) (es : List CE) (p : Cl → Bool) (sf : Sng fv) (L : Chunk) (hv : Rd L 13 v es.length (flR clE es)) (hs : CEs es) (hn : (es.length : Int) ≤ 9223372036854775807)
  (hf : ∀ c vx vb, Sng vx → Sng vb → VP Tryz.prog fv [.agg (clC c vx vb).toArray] L (fun u L' => u = .bool (p c) ∧ L = L') noPanic) :
  Fn1 Tryz.prog 102 [v, fv] L (fun u L' => (∃ j, u = .int .i64 j ∧ IdxC p es j) ∧ L = L') := by
 obtain ⟨av, cv, rfl, _⟩ := hv.isSlice
 intro w0; refine Spec.enter2 Tryz.func102 rfl Tryz.ntmps102 (by decide) ?_
 repeat' (first|refine Ga0 fun _=>?_|refine Ga1 ?_|refine Ga2 (fun _=>?_) fun _=>?_|refine Ga3 ?_|fail)
 refine CW.count es.length (fun i ρ ds L' => ds = [] ∧ L' = L ∧ (∀ e ∈ es.take i, p e.1 = false) ∧ Ev ρ 0 (.slice av es.length cv) ∧ Ev ρ 1 fv ∧ Ev ρ 7 (.int .i64 (es.length : Int)) ∧ Ev ρ 8 (.int .i64 (i : Int))) ⟨rfl, rfl, by simp, ii, ii, ii, ii⟩ ?_
 rintro i ρ ds L' hi ⟨rfl, rfl, hg, e0, e1, e7, e8⟩
 by_cases hlt : i < es.length
 ·obtain ⟨bk, kk, capk, lk, ek, frk, hbe, hbin, hbc, hbn⟩ := hv.open (by omega)
  cases hbe
  have hcut := hbn i hlt
  rw [flR_get clE_len hlt] at hcut
  obtain ⟨q1, q2⟩ := hs es[i] (List.getElem_mem hlt)
  have hts := take_step2 hlt
  have hyes : p es[i].1 = true → IdxC p es i := fun h => .inr ⟨i, hlt, rfl, h, hg⟩
  have hnx : p es[i].1 = false → ∀ e ∈ es.take (i + 1), p e.1 = false := fun h e he => by
   rw [hts] at he
   rcases List.mem_append.1 he with he | he
   ·exact hg e he
   ·rw [List.mem_singleton.1 he]; exact h
  have hlti : (i : Int) < es.length := by omega
  clear hts hbn
  generalize es[i] = e at *
  obtain ⟨c, vx, vb⟩ := e
  simp only [clE] at hcut
  have hvp := hf c vx vb q1 q2
  repeat' (first|refine Ga0 fun _=>?_|refine Ga1 ?_|refine Ga2 (fun _=>?_) fun _=>?_|refine Ga3 ?_|fail)
  refine OW.callV1 hvp ?_
  rintro _ _ ⟨rfl, rfl⟩
  cases hp : p c with
  | true =>
   repeat' (first|refine Ga0 fun _=>?_|refine Ga1 ?_|refine Ga2 (fun _=>?_) fun _=>?_|refine Ga3 ?_|fail)
   exact bodyK.retD L' (Res.one Tryz.results102) ⟨⟨_, rfl, hyes hp⟩, rfl⟩
  | false =>
   repeat' (first|refine Ga0 fun _=>?_|refine Ga1 ?_|refine Ga2 (fun _=>?_) fun _=>?_|refine Ga3 ?_|fail)
   exact ⟨hlt, rfl, rfl, hnx hp, ii, ii, ii, by rw [Int.natCast_add]; infer_instance⟩
 ·obtain rfl : i = es.length := by omega
  rw [List.take_length] at hg
  repeat' (first|refine Ga0 fun _=>?_|refine Ga1 ?_|refine Ga2 (fun _=>?_) fun _=>?_|refine Ga3 ?_|fail)
  exact bodyK.retD L' (Res.one Tryz.results102) ⟨⟨_, rfl, .inl ⟨rfl, hg⟩⟩, rfl⟩
@[reducible] def clZ : List Value := [.int .i64 0, .int .u32 0, .int .u64 0, .int .u64 0, .int .u64 0, .slice none 0 0, .int .i64 0, .bool false, .int .i64 0, .int .u32 0, .int .i64 0, .slice none 0 0, .int .i64 0]
theorem set_take {α : Type} {st : List α} {i : Nat} {a : α} (h : i < st.length) : (st.set i a).take (i + 1) = st.take i ++ [a] := by
 have hl : (st.take i ++ [a]).length = i + 1 := by simp; omega
 rw [List.set_eq_take_append_cons_drop, if_pos h, show st.take i ++ a :: st.drop (i + 1) = (st.take i ++ [a]) ++ st.drop (i + 1) by simp, ← hl, List.take_left]
theorem get_of_drop {α : Type} {a b : List α} {j : Nat} (h : a.drop j = b.drop j) (h1 : j < a.length) (h2 : j < b.length) : a[j] = b[j] := by
 have := congrArg (fun l => l[0]?) h
 simpa [List.getElem?_drop, List.getElem?_eq_getElem h1, List.getElem?_eq_getElem h2] using this
theorem drop_next {α : Type} {a b : List α} {j : Nat} (h : a.drop j = b.drop j) : a.drop (j + 1) = b.drop (j + 1) := by
 have := congrArg (List.drop 1) h
 simpa [List.drop_drop] using this
def keptC (p : Cl → Bool) (es : List CE) : List CE := es.filter fun e => !p e.1
theorem keptC_step {p : Cl → Bool} {es : List CE} {j : Nat} (h : j < es.length) : keptC p (es.take (j + 1)) = keptC p (es.take j) ++ if p es[j].1 then [] else [es[j]] := by
 unfold keptC
 rw [take_step2 h, List.filter_append]
 cases hp : p es[j].1 <;> simp [hp]
theorem keptC_first {p : Cl → Bool} {es : List CE} {i : Nat} (h : i < es.length) (hp : p es[i].1 = true) (hno : ∀ e ∈ es.take i, p e.1 = false) : keptC p (es.take (i + 1)) = es.take i := by
 rw [keptC_step h, hp]
 simp only [if_true, List.append_nil]
 exact List.filter_eq_self.2 fun e he => by simp [hno e he]
theorem jDel (b k cap : Nat) (fv : Value) (pre rest : List Value) (es : List CE) (p : Cl → Bool) (sf : Sng fv) (L : Chunk) (hk : pre.length = k) (hs : CEs es) (hc : es.length ≤ cap) (hn : (es.length : Int) ≤ 9223372036854775807)
  (hf : ∀ c vx vb L', Sng vx → Sng vb → VP Tryz.prog fv [.agg (clC c vx vb).toArray] L' (fun u L'' => u = .bool (p c) ∧ L' = L'') noPanic) :
  Fn1 Tryz.prog 45 [.slice (some ⟨b, k, none⟩) es.length cap, fv] ((b, .cells (pre ++ (flR clE es ++ rest)).toArray 123 (0, 0)) :: L)
   (fun u L' => ∃ rest', u = .slice (some ⟨b, k, none⟩) (keptC p es).length cap ∧ L' = (b, .cells (pre ++ (flR clE (keptC p es) ++ rest')).toArray 123 (0, 0)) :: L ∧ (flR clE (keptC p es) ++ rest').length = (flR clE es ++ rest).length) := by
 have hrd : Rd ((b, .cells (pre ++ (flR clE es ++ rest)).toArray 123 (0, 0)) :: L) 13 (.slice (some ⟨b, k, none⟩) es.length cap) es.length (flR clE es) := flR_rd clE_len hk (List.mem_cons_self ..) hc
 intro w0; refine Spec.enter2 Tryz.func45 rfl Tryz.ntmps45 (by decide) ?_
 repeat' (first|refine Ga0 fun _=>?_|refine Ga1 ?_|refine Ga2 (fun _=>?_) fun _=>?_|refine Ga3 ?_|refine Ga4 fun _=>?_|fail)
 refine OW.call (jIndexC _ fv es p sf _ hrd hs (by omega) (fun c vx vb => hf c vx vb _)) ?_
 rintro _ _ ⟨⟨j, rfl, hj⟩, rfl⟩
 rcases hj with ⟨rfl, hno⟩ | ⟨i, hi, rfl, hpi, hno⟩
 ·have hke : keptC p es = es := List.filter_eq_self.2 fun e he => by simp [hno e he]
  rw [hke]
  repeat' (first|refine Ga0 fun _=>?_|refine Ga1 ?_|refine Ga2 (fun _=>?_) fun _=>?_|refine Ga3 ?_|refine Ga4 fun _=>?_|fail)
  exact bodyK.ret (Res.one Tryz.results45) ⟨rest, rfl, rfl, rfl⟩
 ·have hkf := keptC_first hi hpi hno
  repeat' (first|refine Ga0 fun _=>?_|refine Ga1 ?_|refine Ga2 (fun _=>?_) fun _=>?_|refine Ga3 ?_|refine Ga4 fun _=>?_|fail)
  refine CW.count (es.length - (i + 1)) (fun m ρ ds Lx => ∃ (X : Chunk) (q : Nat) (st : List CE), ds = [] ∧ Lx = X ++ (b, .cells (pre ++ (flR clE st ++ rest)).toArray 123 (0, 0)) :: L ∧ st.length = es.length ∧ q < i + 1 + m ∧ st.take q = keptC p (es.take (i + 1 + m)) ∧ st.drop (i + 1 + m) = es.drop (i + 1 + m) ∧
   Ev ρ 0 (.slice (some ⟨b, k, none⟩) es.length cap) ∧ Ev ρ 1 fv ∧ Ev ρ 5 (.int .i64 (q : Int)) ∧ Ev ρ 6 (.int .i64 ((i + 1 + m : Nat) : Int)))
   ⟨[], i, es, rfl, rfl, rfl, by omega, hkf.symm, rfl, ii, ii, ii, by show Ev _ 6 (.int .i64 ((i + 1 : Nat) : Int)); rw [Int.natCast_add]; infer_instance⟩ ?_
  rintro m ρ ds Lx hm ⟨X, q, st, rfl, rfl, hst, hq, htk, hdr, e0, e1, e5, e6⟩
  have hq1 : q ≤ st.length := by omega
  by_cases hlt : i + 1 + m < es.length
  ·have hlti : ((i + 1 + m : Nat) : Int) < es.length := by omega
   have hqi : (q : Int) < es.length := by omega
   have hlst : i + 1 + m < st.length := by omega
   have hge := get_of_drop hdr hlst hlt
   have hcut := flR_cut (f := clE) clE_len (pre := pre) (rest := rest) hk hlst
   have hput := fun a => flR_put (f := clE) clE_len (pre := pre) (rest := rest) hk (show q < st.length by omega) a
   obtain ⟨q1, q2⟩ := hs _ (List.getElem_mem hlt)
   have hstep := keptC_step (p := p) hlt
   rw [hge] at hcut
   have hmm : m < es.length - (i + 1) := by omega
   have hputs : ∀ e : CE, (st.set q e).length = es.length ∧ (st.set q e).take (q + 1) = st.take q ++ [e] ∧ (st.set q e).drop (i + 1 + (m + 1)) = es.drop (i + 1 + (m + 1)) := fun e => ⟨by simp [hst], set_take (by omega), by
    rw [List.drop_set_of_lt (by omega)]; exact drop_next hdr⟩
   have hnx := drop_next hdr
   clear hge hlst hkf
   generalize es[i + 1 + m] = e at *
   obtain ⟨c, vx, vb⟩ := e
   simp only [clE] at hcut
   have hput := hput (c, vx, vb)
   obtain ⟨g1, g2, g3⟩ := hputs (c, vx, vb)
   simp only [clE] at hput
   repeat' (first|refine Ga0 fun _=>?_|refine Ga1 ?_|refine Ga2 (fun _=>?_) fun _=>?_|refine Ga3 ?_|refine Ga4 fun _=>?_|fail)
   rename_i b7
   refine OW.callV1 (hf c vx vb _ q1 q2) ?_
   rintro _ _ ⟨rfl, rfl⟩
   cases hp : p c with
   | true =>
    rw [hp] at hstep
    simp only [if_true, List.append_nil] at hstep
    repeat' (first|refine Ga0 fun _=>?_|refine Ga1 ?_|refine Ga2 (fun _=>?_) fun _=>?_|refine Ga3 ?_|refine Ga4 fun _=>?_|fail)
    exact ⟨hmm, _ :: X, q, st, rfl, rfl, hst, by omega, htk.trans hstep.symm, hnx, ii, ii, ii, by rw [← Nat.add_assoc, Int.natCast_add]; infer_instance⟩
   | false =>
    rw [hp] at hstep
    simp only [if_false, Bool.false_eq_true] at hstep
    repeat' (first|refine Ga0 fun _=>?_|refine Ga1 ?_|refine Ga2 (fun _=>?_) fun _=>?_|refine Ga3 ?_|refine Ga4 fun _=>?_|fail)
    exact ⟨hmm, _ :: X, q + 1, st.set q (c, vx, vb), rfl, rfl, g1, by omega, by rw [g2, htk]; exact hstep.symm, g3, ii, ii, by rw [Int.natCast_add]; infer_instance, by rw [← Nat.add_assoc, Int.natCast_add]; infer_instance⟩
  ·obtain rfl : m = es.length - (i + 1) := by omega
   have hje : i + 1 + (es.length - (i + 1)) = es.length := by omega
   rw [hje, List.take_length] at htk
   have hql : q = (keptC p es).length := by rw [← htk, List.length_take]; omega
   have hqe : q ≤ es.length := by omega
   have hqn : q < es.length := by omega
   rw [hje] at e6
   have hs1 : slV (.slice (some ⟨b, k, none⟩) es.length cap) q es.length 13 = .slice (some ⟨b, k + q * 13, none⟩) (es.length - q) (cap - q) := by
    have : cap ≠ q := by omega
    simp [slV, this, Addr.add]
   have hs2 : slV (.slice (some ⟨b, k, none⟩) es.length cap) 0 q 13 = .slice (some ⟨b, k, none⟩) q cap := by
    have : cap ≠ 0 := by omega
    simp [slV, this, Addr.add]
   have hpz := flR_putZ (f := clE) clE_len (pre := pre) (rest := rest) (Z := (Builtin.zeroCells clZ.toArray (es.length - q)).toList) hk hq1 (by rw [Array.length_toList, length_zeroCells, hst]; rfl)
   repeat' (first|refine Ga0 fun _=>?_|refine Ga1 ?_|refine Ga2 (fun _=>?_) fun _=>?_|refine Ga3 ?_|refine Ga4 fun _=>?_|fail)
   refine OW.slLo (l' := q) (j := (q : Int)) hrd (by omega) ?_
   rw [hs1]
   repeat' (first|refine Ga0 fun _=>?_|refine Ga1 ?_|refine Ga2 (fun _=>?_) fun _=>?_|refine Ga3 ?_|refine Ga4 fun _=>?_|fail)
   refine OW.clear (by omega) hpz ?_
   repeat' (first|refine Ga0 fun _=>?_|refine Ga1 ?_|refine Ga2 (fun _=>?_) fun _=>?_|refine Ga3 ?_|refine Ga4 fun _=>?_|fail)
   refine OW.slHi (h' := q) (j := (q : Int)) hrd (by omega) ?_
   rw [hs2]
   repeat' (first|refine Ga0 fun _=>?_|refine Ga1 ?_|refine Ga2 (fun _=>?_) fun _=>?_|refine Ga3 ?_|refine Ga4 fun _=>?_|fail)
   rw [htk, hql]
   refine bodyK.retD ((b, .cells (pre ++ (flR clE (keptC p es) ++ ((Builtin.zeroCells clZ.toArray (es.length - (keptC p es).length)).toList ++ rest))).toArray 123 (0, 0)) :: L) (Res.one Tryz.results45) ⟨_, rfl, rfl, ?_⟩
   have h1 := flR_length clE_len es
   have h2 := flR_length clE_len (keptC p es)
   have h4 : (Builtin.zeroCells clZ.toArray (es.length - (keptC p es).length)).toList.length = (es.length - (keptC p es).length) * 13 := by rw [Array.length_toList, length_zeroCells]; rfl
   simp only [List.length_append]
   rw [h1, h2, h4, ← hql]
   have h3 : (q + (es.length - q)) * 13 = es.length * 13 := by congr 1; omega
   rw [← h3, Nat.add_mul, Nat.add_assoc]
theorem jIns0 (v fv : Value) (a b : Int) (sv : Sng v) (sf : Sng fv) (L : Chunk) (ha : 0 ≤ a ∧ a < 4611686018427387904) (hb : b ≤ a + 1) (hb0 : 0 ≤ b) :
  Fn1 Tryz.prog 145 [v, .int .i64 a, .int .i64 b, fv] L (fun _ L' => L = L') := by
 intro w0; refine Spec.enter4 Tryz.func145 rfl Tryz.ntmps145 (by decide) ?_
 have z4:DrP 4 [0,1,2,3,4,5,6,7,8,9,10,11,12,13,14,15,16]:=⟨⟨⟩⟩; have z6:DrC 6 [0, 1, 2, 3, 4, 5, 6, 7, 8, 10, 11, 12] [9, 13] 14 [15, 16, 17]:=⟨⟨⟩⟩
 repeat' (first|refine Gi0 fun _=>?_|refine Gi1 ?_|refine Gi2 (fun _=>?_) fun _=>?_|refine Gi3 ?_|fail)
 refine CW.count 0 (fun i ρ ds Lx => ds = [] ∧ Lx = L ∧ Ev ρ 2 (.int .i64 b) ∧ Ev ρ 8 (.int .i64 (a + 1))) ⟨rfl, rfl, ii, ii⟩ ?_
 rintro i ρ ds Lx hi ⟨rfl, rfl, e2, e8⟩
 have hc : ¬ a + 1 < b := by omega
 repeat' (first|refine Gi0 fun _=>?_|refine Gi1 ?_|refine Gi2 (fun _=>?_) fun _=>?_|refine Gi3 ?_|fail)
 exact bodyK.nrmD Lx (Res.zero Tryz.results145) rfl
theorem jStab0 (v fv : Value) (n : Nat) (sv : Sng v) (sf : Sng fv) (L : Chunk) (hn : n ≤ 1) :
  Fn1 Tryz.prog 105 [v, .int .i64 (n : Int), fv] L (fun _ L' => L = L') := by
 intro w0; refine Spec.enter3 Tryz.func105 rfl Tryz.ntmps105 (by decide) ?_
 repeat' (first|refine Ga0 fun _=>?_|refine Ga1 ?_|refine Ga2 (fun _=>?_) fun _=>?_|refine Ga3 ?_|fail)
 refine CW.count 0 (fun i ρ ds Lx => ds = [] ∧ Lx = L ∧ Ev ρ 0 v ∧ Ev ρ 1 (.int .i64 (n : Int)) ∧ Ev ρ 2 fv ∧ Ev ρ 6 (.int .i64 20) ∧ Ev ρ 7 (.int .i64 0) ∧ Ev ρ 8 (.int .i64 20)) ⟨rfl, rfl, ii, ii, ii, ii, ii, ii⟩ ?_
 rintro i ρ ds Lx hi ⟨rfl, rfl, e0, e1, e2, e6, e7, e8⟩
 have hc : ¬ (20 : Int) ≤ n := by omega
 repeat' (first|refine Ga0 fun _=>?_|refine Ga1 ?_|refine Ga2 (fun _=>?_) fun _=>?_|refine Ga3 ?_|fail)
 refine OW.call (jIns0 v fv 0 n sv sf _ (by omega) (by omega) (by omega)) ?_
 rintro _ _ rfl
 repeat' (first|refine Ga0 fun _=>?_|refine Ga1 ?_|refine Ga2 (fun _=>?_) fun _=>?_|refine Ga3 ?_|fail)
 refine CW.count 0 (fun i ρ ds Ly => ds = [] ∧ Ly = Lx ∧ Ev ρ 1 (.int .i64 (n : Int)) ∧ Ev ρ 6 (.int .i64 20)) ⟨rfl, rfl, ii, ii⟩ ?_
 rintro i ρ ds Ly hi ⟨rfl, rfl, e1, e6⟩
 have hc : ¬ (20 : Int) < n := by omega
 repeat' (first|refine Ga0 fun _=>?_|refine Ga1 ?_|refine Ga2 (fun _=>?_) fun _=>?_|refine Ga3 ?_|fail)
 exact bodyK.nrmD Ly (Res.zero Tryz.results105) rfl
theorem jSort0 (v fv : Value) (n : Nat) (a : Option Addr) (cap : Nat) (hv : v = .slice a n cap) (sf : Sng fv) (L : Chunk) (hn : n ≤ 1) :
  Fn1 Tryz.prog 48 [v, fv] L (fun _ L' => L = L') := by
 subst hv
 have hl : (n : Int) ≤ 9223372036854775807 := by omega
 intro w0; refine Spec.enter2 Tryz.func48 rfl Tryz.ntmps48 (by decide) ?_
 repeat' (first|refine Ga0 fun _=>?_|refine Ga1 ?_|refine Ga2 (fun _=>?_) fun _=>?_|refine Ga3 ?_|fail)
 refine OW.call (jStab0 _ fv n ii sf _ hn) ?_
 rintro _ _ rfl
 repeat' (first|refine Ga0 fun _=>?_|refine Ga1 ?_|refine Ga2 (fun _=>?_) fun _=>?_|refine Ga3 ?_|fail)
 exact bodyK.nrmD L (Res.zero Tryz.results48) rfl
theorem jBy (c d : Cl) (vx vb wx wb : Value) (L : Chunk) [s1 : Sng vx] [s2 : Sng vb] [s3 : Sng wx] [s4 : Sng wb] (h1 : -1 ≤ c.work ∧ c.work ≤ 4096) (h2 : -1 ≤ d.work ∧ d.work ≤ 4096) :
  Fn1 Tryz.prog 49 [.agg (clC c vx vb).toArray, .agg (clC d wx wb).toArray] L (fun u L' => u = .int .i64 (c.work - d.work) ∧ L = L') := by
 intro w0; refine Spec.enter2 Tryz.func49 rfl Tryz.ntmps49 (by decide) ?_
 repeat' (first|refine Ga0 fun _=>?_|refine Ga1 ?_|refine Ga2 (fun _=>?_) fun _=>?_|refine Ga3 ?_|refine Ga4 fun _=>?_|fail)
 exact bodyK.retD L (Res.one Tryz.results49) ⟨rfl, rfl⟩
def SortC (M : Nat) : Prop := ∀ (b k cap : Nat) (pre rest : List Value) (es : List CE) (L : Chunk), pre.length = k → CEs es → (∀ e ∈ es, -1 ≤ e.1.work ∧ e.1.work ≤ 4096) → es.length ≤ cap → es.length ≤ M →
 Fn1 Tryz.prog 48 [.slice (some ⟨b, k, none⟩) es.length cap, .func (.func 49) #[] #[]] ((b, .cells (pre ++ (flR clE es ++ rest)).toArray 123 (0, 0)) :: L)
  (fun _ L' => ∃ es', es'.Perm es ∧ L' = (b, .cells (pre ++ (flR clE es' ++ rest)).toArray 123 (0, 0)) :: L)
theorem jDo (bm bp : Nat) (m : Mod) (hwf : WF m) (x : OpM) (hxr : OpR0 x) (o : OutM) (vx vb : Value) (L : Chunk) {C : Chunk → Chunk} (hvx : BS L vx x.bytes) [hat : At L [(bm, .cells (mcells m bp).toArray 142 (0, 0))] C] (hr : MRest (C []) bp m)
  (hb : BS L vb o.bytes) (hor : OutR0 o) : Fn1 Tryz.prog 20 [.pointer (some ⟨bm, 0, none⟩), .agg #[.int .i64 x.kind, .int .u32 x.ad, .int .u64 x.size, .int .u64 x.mult, .int .u64 x.many, vx], .agg #[.int .i64 o.errno, .int .u32 o.ad, .int .i64 o.n, vb]] L (fun u L' => ∃ N b2, u = .tuple #[.bool (Md.next m x o).2, .int .i64 (nextE x)] ∧ L' = N ++ C [(bm, .cells (mcells (after m x o) b2).toArray 142 (0, 0))] ∧ MRest (N ++ C []) b2 (after m x o)) :=
 modelDo bm bp m hwf x ⟨hxr.kind, hxr.ad, hxr.size, hxr.mult, hxr.many⟩ o vx vb (C []) L hvx (hD := ⟨fun _ h => h⟩) hr hb ⟨hor.errno, hor.ad, hor.n⟩
theorem wf_after {m : Mod} (h : WF m) {L : Chunk} {vx vb : Value} {x : OpM} {o : OutM} (h1 : BS L vx x.bytes) (h2 : BS L vb o.bytes) (ho : OutR0 o) : WF (after m x o) :=
 after_wf h ho.ad.1 (fun z hz => by have := h1.byt z hz; omega) (fun z hz => by have := h2.byt z hz; omega)
theorem after_of {m : Mod} {x : OpM} {o : OutM} (h : (Md.next m x o).2 = true) : after m x o = (Md.next m x o).1 := by unfold after; rw [h]; simp
theorem verdict_step {m : Mod} {cs : List Cl} {i : Nat} (h : i < cs.length) : verdict m (cs.drop i) = (if cs[i].told = false then (if asksC cs[i] then verdict m (cs.drop (i + 1)) else (2, cs[i].work))
  else if (Md.next m cs[i].op cs[i].out).2 then verdict (Md.next m cs[i].op cs[i].out).1 (cs.drop (i + 1)) else (1, cs[i].work)) := by
 conv => lhs; rw [List.drop_eq_getElem_cons h, verdict]
 rfl
theorem jDel0 (v fv : Value) (es : List CE) (p : Cl → Bool) (sf : Sng fv) (L : Chunk) (hv : Rd L 13 v es.length (flR clE es)) (hs : CEs es) (hn : (es.length : Int) ≤ 9223372036854775807) (hno : ∀ e ∈ es, p e.1 = false)
  (hf : ∀ c vx vb L', Sng vx → Sng vb → VP Tryz.prog fv [.agg (clC c vx vb).toArray] L' (fun u L'' => u = .bool (p c) ∧ L' = L'') noPanic) :
  Fn1 Tryz.prog 45 [v, fv] L (fun u L' => u = v ∧ L = L') := by
 have hv' := hv
 obtain ⟨av, cv, rfl, _⟩ := hv'.isSlice
 intro w0; refine Spec.enter2 Tryz.func45 rfl Tryz.ntmps45 (by decide) ?_
 repeat' (first|refine Ga0 fun _=>?_|refine Ga1 ?_|refine Ga2 (fun _=>?_) fun _=>?_|refine Ga3 ?_|refine Ga4 fun _=>?_|fail)
 refine OW.call (jIndexC _ fv es p sf _ hv hs (by omega) (fun c vx vb => hf c vx vb _)) ?_
 rintro _ _ ⟨⟨j, rfl, hj⟩, rfl⟩
 rcases hj with ⟨rfl, _⟩ | ⟨i, hi, rfl, hpi, _⟩
 ·repeat' (first|refine Ga0 fun _=>?_|refine Ga1 ?_|refine Ga2 (fun _=>?_) fun _=>?_|refine Ga3 ?_|refine Ga4 fun _=>?_|fail)
  exact bodyK.retD L (Res.one Tryz.results45) ⟨rfl, rfl⟩
 ·rw [hno _ (List.getElem_mem hi)] at hpi
  cases hpi
end Go.Proofs.YtmnhooepaemlcaaGreat
