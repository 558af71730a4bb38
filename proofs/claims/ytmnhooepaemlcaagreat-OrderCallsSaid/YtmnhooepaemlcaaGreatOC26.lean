/- OrderCalls: true for every input; arguments as before. Part 26. Conditions: none. -/
import Derived.Test.YtmnhooepaemlcaaGreatOC2
import Derived.Test.YtmnhooepaemlcaaGreatOC3
import Derived.Test.YtmnhooepaemlcaaGreatOC22
import Derived.Test.YtmnhooepaemlcaaGreatOC23
import Derived.Test.YtmnhooepaemlcaaGreatOC25
set_option linter.all false
namespace Go.Proofs.YtmnhooepaemlcaaGreat
open Go Go.Pw Go.Pw.Sc Go.Pw.Md Go.Pw.Jd
set_option maxRecDepth 100000
set_option maxHeartbeats 4000000
set_option synthInstance.maxHeartbeats 400000
set_option synthInstance.maxSize 2000
attribute [local irreducible] CW OW RW thenK blockK
attribute [local irreducible] scopeK loopK TRW ATW
theorem jStabE (fv : Value) (hf : CmpV fv) (sf : Sng fv) (b k cap : Nat) (pre rest : List Value) (es : List CE) (L : Chunk) (hk : pre.length = k) (hs : ∀ e ∈ es, OkE e) (m : Nat) (hml : es.length = m) (hm : m ≤ 4096) :
  Fn1 Tryz.prog 105 [.slice (some ⟨b, k, none⟩) m cap, .int .i64 (m : Int), fv] ((b, .cells (pre ++ (flR clE es ++ rest)).toArray 123 (0, 0)) :: L)
   (fun _ L' => ∃ es', es'.Perm es ∧ L' = (b, .cells (pre ++ (flR clE es' ++ rest)).toArray 123 (0, 0)) :: L) := by
 intro w0; refine Spec.enter3 Tryz.func105 rfl Tryz.ntmps105 (by decide) ?_
 repeat' (first|refine Ga0 fun _=>?_|refine Ga1 ?_|refine Ga2 (fun _=>?_) fun _=>?_|refine Ga3 ?_|fail)
 refine CW.loop (fun κ ρ ds L' => ds = [] ∧ (∃ (q : Nat) (st : List CE), L' = (b, .cells (pre ++ (flR clE st ++ rest)).toArray 123 (0, 0)) :: L ∧ st.Perm es ∧ q ≤ m ∧ κ = m - q ∧ Ev ρ 7 (.int .i64 (q : Int)) ∧ Ev ρ 8 (.int .i64 ((q : Int) + 20))) ∧ Ev ρ 0 (.slice (some ⟨b, k, none⟩) m cap) ∧ Ev ρ 1 (.int .i64 (m : Int)) ∧ Ev ρ 2 fv ∧ Ev ρ 6 (.int .i64 20)) m
  ⟨rfl, ⟨0, es, rfl, .refl _, by omega, rfl, ii, inferInstanceAs (Ev _ 8 (.int .i64 20))⟩, ii, ii, ii, ii⟩ ?_
 rintro κ ρ ds L' ⟨rfl, ⟨q, st, rfl, hp, q1, rfl, e7, e8⟩, e0, e1, e2, e6⟩
 have hsl := hp.length_eq
 have hs' : ∀ e ∈ st, OkE e := fun e he => hs e (hp.mem_iff.1 he)
 by_cases hlt : (q : Int) + 20 ≤ m
 ·repeat' (first|refine Ga0 fun _=>?_|refine Ga1 ?_|refine Ga2 (fun _=>?_) fun _=>?_|refine Ga3 ?_|fail)
  refine OW.call (jInsE fv hf sf b k cap q (q + 20) _ _ pre rest st L rfl (by omega) hk hs' m (by omega) hm (by omega) (by omega)) ?_
  rintro _ _ ⟨st2, hp2, rfl⟩
  repeat' (first|refine Ga0 fun _=>?_|refine Ga1 ?_|refine Ga2 (fun _=>?_) fun _=>?_|refine Ga3 ?_|fail)
  exact ⟨m - (q + 20), by omega, rfl, ⟨q + 20, st2, rfl, hp2.trans hp, by omega, rfl, by rw [Int.natCast_add]; infer_instance, by rw [Int.natCast_add]; infer_instance⟩, ii, ii, ii, ii⟩
 ·repeat' (first|refine Ga0 fun _=>?_|refine Ga1 ?_|refine Ga2 (fun _=>?_) fun _=>?_|refine Ga3 ?_|fail)
  refine OW.call (jInsE fv hf sf b k cap q m _ _ pre rest st L rfl rfl hk hs' m (by omega) hm (by omega) (by omega)) ?_
  rintro _ _ ⟨st2, hp2, rfl⟩
  have hp3 := hp2.trans hp
  clear hp hp2 hsl hs' e7 e8
  repeat' (first|refine Ga0 fun _=>?_|refine Ga1 ?_|refine Ga2 (fun _=>?_) fun _=>?_|refine Ga3 ?_|fail)
  refine CW.loop (fun κ ρ ds L' => ds = [] ∧ (∃ (B : Nat) (st : List CE), L' = (b, .cells (pre ++ (flR clE st ++ rest)).toArray 123 (0, 0)) :: L ∧ st.Perm es ∧ 20 ≤ B ∧ B ≤ 8192 ∧ κ = 8192 - B ∧ Ev ρ 6 (.int .i64 (B : Int))) ∧ Ev ρ 0 (.slice (some ⟨b, k, none⟩) m cap) ∧ Ev ρ 1 (.int .i64 (m : Int)) ∧ Ev ρ 2 fv) (8192 - 20)
   ⟨rfl, ⟨20, st2, rfl, hp3, by omega, by omega, rfl, ii⟩, ii, ii, ii⟩ ?_
  clear e0 e1 e2 e6 hp3
  rintro κ ρ ds L' ⟨rfl, ⟨B, st, rfl, hp, b1, b2, rfl, e6⟩, e0, e1, e2⟩
  by_cases hB : B < m
  ·repeat' (first|refine Ga0 fun _=>?_|refine Ga1 ?_|refine Ga2 (fun _=>?_) fun _=>?_|refine Ga3 ?_|fail)
   refine CW.loop (fun κ ρ ds L' => ds = [] ∧ (∃ (q : Nat) (st : List CE), L' = (b, .cells (pre ++ (flR clE st ++ rest)).toArray 123 (0, 0)) :: L ∧ st.Perm es ∧ q ≤ m ∧ κ = m - q ∧ Ev ρ 7 (.int .i64 (q : Int)) ∧ Ev ρ 8 (.int .i64 ((q : Int) + 2 * (B : Int)))) ∧ Ev ρ 0 (.slice (some ⟨b, k, none⟩) m cap) ∧ Ev ρ 1 (.int .i64 (m : Int)) ∧ Ev ρ 2 fv ∧ Ev ρ 6 (.int .i64 (B : Int))) m
    ⟨rfl, ⟨0, st, rfl, hp, by omega, rfl, ii, by show Ev _ 8 (.int .i64 (((0 : Nat) : Int) + 2 * (B : Int))); rw [show ((0 : Nat) : Int) + 2 * (B : Int) = 2 * (B : Int) by omega]; infer_instance⟩, ii, ii, ii, ii⟩ ?_
   clear e0 e1 e2 e6 hp
   rintro κ ρ ds L' ⟨rfl, ⟨q, st, rfl, hp, q1, rfl, e7, e8⟩, e0, e1, e2, e6⟩
   have hsl := hp.length_eq
   have hs' : ∀ e ∈ st, OkE e := fun e he => hs e (hp.mem_iff.1 he)
   by_cases hlt : (q : Int) + 2 * (B : Int) ≤ m
   ·repeat' (first|refine Ga0 fun _=>?_|refine Ga1 ?_|refine Ga2 (fun _=>?_) fun _=>?_|refine Ga3 ?_|fail)
    refine OW.call (jSym fv hf sf b k cap pre rest L hk m hm m q (q + B) (q + 2 * B) _ _ _ st rfl (by omega) (by omega) hs' (by omega) (by omega) (by omega) (by omega) (by omega)) ?_
    rintro _ _ ⟨st2, hp2, rfl⟩
    repeat' (first|refine Ga0 fun _=>?_|refine Ga1 ?_|refine Ga2 (fun _=>?_) fun _=>?_|refine Ga3 ?_|fail)
    exact ⟨m - (q + 2 * B), by omega, rfl, ⟨q + 2 * B, st2, rfl, hp2.trans hp, by omega, rfl, by rw [show ((q + 2 * B : Nat) : Int) = (q : Int) + 2 * (B : Int) by omega]; infer_instance, by rw [show ((q + 2 * B : Nat) : Int) = (q : Int) + 2 * (B : Int) by omega]; infer_instance⟩, ii, ii, ii, ii⟩
   ·by_cases hend : (q : Int) + (B : Int) < m
    ·repeat' (first|refine Ga0 fun _=>?_|refine Ga1 ?_|refine Ga2 (fun _=>?_) fun _=>?_|refine Ga3 ?_|fail)
     refine OW.call (jSym fv hf sf b k cap pre rest L hk m hm m q (q + B) m _ _ _ st rfl (by omega) rfl hs' (by omega) (by omega) (by omega) (by omega) (by omega)) ?_
     rintro _ _ ⟨st2, hp2, rfl⟩
     repeat' (first|refine Ga0 fun _=>?_|refine Ga1 ?_|refine Ga2 (fun _=>?_) fun _=>?_|refine Ga3 ?_|fail)
     exact ⟨8192 - B * 2, by omega, rfl, ⟨B * 2, st2, rfl, hp2.trans hp, by omega, by omega, rfl, by rw [Int.natCast_mul]; infer_instance⟩, ii, ii, ii⟩
    ·repeat' (first|refine Ga0 fun _=>?_|refine Ga1 ?_|refine Ga2 (fun _=>?_) fun _=>?_|refine Ga3 ?_|fail)
     exact ⟨8192 - B * 2, by omega, rfl, ⟨B * 2, st, rfl, hp, by omega, by omega, rfl, by rw [Int.natCast_mul]; infer_instance⟩, ii, ii, ii⟩
  ·repeat' (first|refine Ga0 fun _=>?_|refine Ga1 ?_|refine Ga2 (fun _=>?_) fun _=>?_|refine Ga3 ?_|fail)
   exact bodyK.nrm (Res.zero Tryz.results105) ⟨st, hp, rfl⟩
theorem cmpBy : CmpV (.func (.func 49) #[] #[]) := fun c d x1 b1 x2 b2 L s1 s2 s3 s4 h1 h2 =>
 FnP.vp (first := #[]) (cap := #[]) ((jBy c d x1 b1 x2 b2 L h1 h2).mono (fun _ _ h => ⟨⟨_, h.1⟩, h.2⟩) (fun _ _ h => h.elim))
theorem sortC : SortC 4096 := by
 intro b k cap pre rest es L hk hs hw hc hn
 have hs' : ∀ e ∈ es, OkE e := fun e he => ⟨(hs e he).1, (hs e he).2, (hw e he).1, (hw e he).2⟩
 generalize hml : es.length = m at *
 intro w0; refine Spec.enter2 Tryz.func48 rfl Tryz.ntmps48 (by decide) ?_
 repeat' (first|refine Ga0 fun _=>?_|refine Ga1 ?_|refine Ga2 (fun _=>?_) fun _=>?_|refine Ga3 ?_|fail)
 refine OW.call (jStabE _ cmpBy ii b k cap pre rest es L hk hs' m hml hn) ?_
 rintro _ _ ⟨st2, hp2, rfl⟩
 repeat' (first|refine Ga0 fun _=>?_|refine Ga1 ?_|refine Ga2 (fun _=>?_) fun _=>?_|refine Ga3 ?_|fail)
 exact bodyK.nrm (Res.zero Tryz.results48) ⟨st2, hp2, rfl⟩
open Go Go.Pw Go.Pw.Sc Go.Pw.Md Go.Pw.Jd Go.Pw.Or
def askE (ts : List Turn) (rs : List Rp) (x : Hd) : Int := if ts.length ≠ rs.length then 2 else if 4096 < ts.length then 3 else if (quotaOf (rows (ts.zip rs)) x).2 = false then 311 else 0
theorem callsOf_len (x : Hd) : ∀ (l : List Row) (k : Nat), (callsOf x l k).length ≤ l.length
 | [], _ => Nat.le_refl _
 | w :: l, k => by
  rw [callsOf]
  have := callsOf_len x l (k + 1)
  split <;> simp <;> omega
theorem ocAsked (vl vr : Value) (ts : List Turn) (rs : List Rp) (x : Hd) (L : Chunk) (hl : LS 13 TnAt L vl ts) (hr : LS 11 RpAt L vr rs) (hx : inR .i64 x.1 ∧ inR .i64 x.2) (hb : ts.length ≤ 4096) :
  Fn1 Tryz.prog 73 [vl, vr, hdV x] L (fun u L' => u = .int .i64 (askE ts rs x) ∧ L = L') := by
 have sl := hl.sng
 have sr := hr.sng
 have hM : ((callsOf x (rows (ts.zip rs)) 0).filter fun c => !noWork c).length ≤ 4096 := by
  have h1 := List.length_filter_le (fun c => !noWork c) (callsOf x (rows (ts.zip rs)) 0)
  have h2 := callsOf_len x (rows (ts.zip rs)) 0
  rw [rows_length, List.length_zip] at h2
  omega
 intro w0; refine Spec.enter3 Tryz.func73 rfl Tryz.ntmps73 (by decide) ?_
 repeat' (first|refine Ga0 fun _=>?_|refine Ga1 ?_|refine Ga2 (fun _=>?_) fun _=>?_|refine Ga3 ?_|refine Ga4 fun _=>?_|fail)
 refine OW.call (jJudge 4096 sortC vl vr ts rs x _ (LS.to hl (fun c a h => TnAt.to c a h)) (LS.to hr (fun c a h => RpAt.to c a h)) hx hM) ?_
 rintro u _ ⟨hj, rfl⟩
 obtain ⟨a, b, rfl⟩ : ∃ a b, u = .tuple #[.agg #[.int .i64 a, .int .i64 b], .int .i64 (askE ts rs x)] := by
  unfold Judged at hj
  unfold askE
  split at hj
  ·rename_i h; rw [if_pos h]; exact ⟨_, _, hj⟩
  ·rename_i h
   rw [if_neg h]
   split at hj
   ·rename_i h2; rw [if_pos h2]; exact ⟨_, _, hj⟩
   ·rename_i h2
    rw [if_neg h2]
    split at hj
    ·rename_i h3; rw [if_pos h3]; exact ⟨_, _, hj⟩
    ·rename_i h3
     rw [if_neg h3]
     obtain ⟨_, _, hj⟩ := hj
     exact ⟨_, _, hj⟩
 repeat' (first|refine Ga0 fun _=>?_|refine Ga1 ?_|refine Ga2 (fun _=>?_) fun _=>?_|refine Ga3 ?_|refine Ga4 fun _=>?_|fail)
 exact bodyK.retD L (Res.one Tryz.results73) ⟨rfl, rfl⟩
structure OEnt where
 e : MapEntry
 N : Chunk
 ks : List Nat
def OQ (zs : List OEnt) : Chunk := (zs.map (·.N)).flatten
theorem OQ_mid (A B : List OEnt) (z : OEnt) : OQ (A ++ z :: B) = OQ A ++ (z.N ++ OQ B) := by simp [OQ]
theorem OQ_snoc (A : List OEnt) (z : OEnt) : OQ (A ++ [z]) = OQ A ++ z.N := by simp [OQ]
structure OpOk (op : Int → List Nat) (es : List MapEntry) (c : Nat) (zs : List OEnt) : Prop where
 kv : KV .i64 es c
 es : es = zs.map (·.e)
 row : ∀ z ∈ zs, Row 3 1 z.N z.e.val z.ks.length (inN z.ks)
 val : ∀ z ∈ zs, op (kI z.e.key) = z.ks ∧ z.ks ≠ []
 dom : ∀ n, op n ≠ [] → ∃ z ∈ zs, kI z.e.key = n
theorem OpOk.nil : OpOk (fun _ => []) [] 0 [] := ⟨KV.nil _, rfl, fun _ h => (by cases h), fun _ h => (by cases h), fun _ h => absurd rfl h⟩
theorem opok_none {op : Int → List Nat} {es : List MapEntry} {c : Nat} {zs : List OEnt} (h : OpOk op es c zs) {n : Int} (hf : findI es n = none) : op n = [] := Classical.byContradiction fun hne => by
 obtain ⟨z, hz, hzk⟩ := h.dom n hne
 exact h.kv.none_of hf z.e (by rw [h.es]; exact List.mem_map.2 ⟨z, hz, rfl⟩) hzk
theorem opok_some {op : Int → List Nat} {es : List MapEntry} {c : Nat} {zs : List OEnt} (h : OpOk op es c zs) {n : Int} {v : Value} (hf : findI es n = some v) : ∃ A z B, zs = A ++ z :: B ∧ z.e.key = .int .i64 n ∧ z.e.val = v ∧ op n = z.ks ∧ (∀ y ∈ A ++ B, kI y.e.key ≠ n) := by
 obtain ⟨P, e, S, h1, h2, h3⟩ := h.kv.some_of hf
 have hes := h.es
 rw [h1] at hes
 obtain ⟨A, zB, rfl, hA, hzB⟩ := List.map_eq_append_iff.1 hes.symm
 obtain ⟨z, B, rfl, hz, hB⟩ := List.map_eq_cons_iff.1 hzB
 have hk : z.e.key = .int .i64 n := by rw [hz, h2]
 have hkI : kI z.e.key = n := by rw [hk]; rfl
 refine ⟨A, z, B, rfl, hk, by rw [hz, h3], by rw [← hkI]; exact (h.val z (by simp)).1, fun y hy hyn => ?_⟩
 have hap := h.kv.apart
 rw [h1, List.map_append, List.map_cons, ← hA, ← hB, ← hz, hkI] at hap
 have hnd := List.nodup_append.1 hap
 rcases List.mem_append.1 hy with hy | hy
 ·exact hnd.2.2 n (List.mem_map.2 ⟨y.e, List.mem_map.2 ⟨y, hy, rfl⟩, hyn⟩) n (List.mem_cons_self ..) rfl
 ·exact (List.nodup_cons.1 hnd.2.1).1 (List.mem_map.2 ⟨y.e, List.mem_map.2 ⟨y, hy, rfl⟩, hyn⟩)
def opSet (op : Int → List Nat) (n : Int) (ks : List Nat) : Int → List Nat := fun m => if m = n then ks else op m
theorem OpOk.new {op : Int → List Nat} {es : List MapEntry} {c : Nat} {zs : List OEnt} (h : OpOk op es c zs) {n : Int} (hf : findI es n = none) {v : Value} {N : Chunk} {k : Nat} (hr : Row 3 1 N v 1 (inN [k])) :
  OpOk (opSet op n [k]) (putE .i64 n v es c).1 (putE .i64 n v es c).2 (zs ++ [⟨⟨.int .i64 n, v, c⟩, N, [k]⟩]) := by
 have hno := h.kv.none_of hf
 refine ⟨h.kv.put, ?_, fun z hz => ?_, fun z hz => ?_, fun m hm => ?_⟩
 ·rw [put_none hf, List.map_append, ← h.es]; rfl
 ·rcases List.mem_append.1 hz with hz | hz
  ·exact h.row z hz
  ·rw [List.mem_singleton.1 hz]; exact hr
 ·rcases List.mem_append.1 hz with hz | hz
  ·have : ¬ kI z.e.key = n := hno z.e (by rw [h.es]; exact List.mem_map.2 ⟨z, hz, rfl⟩)
   unfold opSet
   rw [if_neg this]
   exact h.val z hz
  ·rw [List.mem_singleton.1 hz]
   exact ⟨if_pos rfl, by simp⟩
 ·unfold opSet at hm
  by_cases hmn : m = n
  ·exact ⟨_, List.mem_append_right _ (List.mem_singleton.2 rfl), hmn.symm⟩
  ·rw [if_neg hmn] at hm
   obtain ⟨z, hz, hzk⟩ := h.dom m hm
   exact ⟨z, List.mem_append_left _ hz, hzk⟩
theorem OpOk.more {op : Int → List Nat} {es : List MapEntry} {c : Nat} {A B : List OEnt} {z : OEnt} (h : OpOk op es c (A ++ z :: B)) {n : Int} (hk : z.e.key = .int .i64 n) (hno : ∀ y ∈ A ++ B, kI y.e.key ≠ n) {v : Value} {N : Chunk} {ks : List Nat} (hks : ks ≠ []) (hr : Row 3 1 N v ks.length (inN ks)) :
  OpOk (opSet op n ks) (putE .i64 n v es c).1 (putE .i64 n v es c).2 (A ++ ⟨⟨z.e.key, v, z.e.born⟩, N, ks⟩ :: B) := by
 have hkI : kI z.e.key = n := by rw [hk]; rfl
 have hf : findI es n = some z.e.val := by
  have := h.kv.find_of (e := z.e) (by rw [h.es]; simp)
  rwa [hkI] at this
 have hid : ∀ Q : List OEnt, (∀ x ∈ Q, kI x.e.key ≠ n) → ((Q.map (·.e)).map fun e => if kI e.key = n then { key := .int .i64 n, val := v, born := e.born } else e) = Q.map (·.e) := fun Q hQ => by
  rw [List.map_map]
  exact List.map_congr_left fun x hx => by simp only [Function.comp_apply]; rw [if_neg (hQ x hx)]
 refine ⟨h.kv.put, ?_, fun y hy => ?_, fun y hy => ?_, fun m hm => ?_⟩
 ·rw [put_some hf, h.es]
  unfold setE
  rw [List.map_append, List.map_append, List.map_cons, List.map_cons, hid A fun x hx => hno x (List.mem_append_left _ hx), hid B fun x hx => hno x (List.mem_append_right _ hx), if_pos hkI, List.map_append, List.map_cons, hk]
 ·rcases List.mem_append.1 hy with hy | hy
  ·exact h.row y (by simp [hy])
  ·rcases List.mem_cons.1 hy with rfl | hy
   ·exact hr
   ·exact h.row y (by simp [hy])
 ·have hold : ∀ y ∈ A ++ B, opSet op n ks (kI y.e.key) = y.ks ∧ y.ks ≠ [] := fun y hy => by
   unfold opSet
   rw [if_neg (hno y hy)]
   exact h.val y (by rcases List.mem_append.1 hy with h | h <;> simp [h])
  rcases List.mem_append.1 hy with hy | hy
  ·exact hold y (List.mem_append_left _ hy)
  ·rcases List.mem_cons.1 hy with rfl | hy
   ·unfold opSet
    exact ⟨if_pos hkI, hks⟩
   ·exact hold y (List.mem_append_right _ hy)
 ·unfold opSet at hm
  by_cases hmn : m = n
  ·exact ⟨_, List.mem_append_right _ (List.mem_cons_self ..), by rw [hmn]; exact hkI⟩
  ·rw [if_neg hmn] at hm
   obtain ⟨y, hy, hyk⟩ := h.dom m hm
   rcases List.mem_append.1 hy with hy | hy
   ·exact ⟨y, by simp [hy], hyk⟩
   ·rcases List.mem_cons.1 hy with rfl | hy
    ·exact absurd (hyk.symm.trans hkI) hmn
    ·exact ⟨y, by simp [hy], hyk⟩
theorem OpOk.filter {op : Int → List Nat} {es : List MapEntry} {c : Nat} {zs : List OEnt} (h : OpOk op es c zs) (p : Int → Bool) : OpOk (fun n => if p n then op n else []) (es.filter fun e => p (kI e.key)) c (zs.filter fun z => p (kI z.e.key)) := by
 refine ⟨h.kv.filter _, ?_, fun z hz => h.row z (List.mem_filter.1 hz).1, fun z hz => ?_, fun n hn => ?_⟩
 ·rw [h.es, List.filter_map]; rfl
 ·obtain ⟨h1, h2⟩ := List.mem_filter.1 hz
  rw [if_pos h2]
  exact h.val z h1
 ·by_cases hp : p n = true
  ·rw [if_pos hp] at hn
   obtain ⟨z, hz, hzk⟩ := h.dom n hn
   exact ⟨z, List.mem_filter.2 ⟨hz, by rw [hzk]; exact hp⟩, hzk⟩
  ·rw [if_neg hp] at hn
   exact absurd rfl hn
theorem OpOk.congr {op op' : Int → List Nat} {es : List MapEntry} {c : Nat} {zs : List OEnt} (h : OpOk op es c zs) (he : ∀ n, op' n = op n) : OpOk op' es c zs := by
 have : op' = op := funext he
 rw [this]; exact h
theorem OQ_sub {p : OEnt → Bool} : ∀ zs : List OEnt, (OQ (zs.filter p)).Sublist (OQ zs)
 | [] => List.Sublist.refl _
 | z :: zs => by
  rw [List.filter_cons]
  have ih := OQ_sub (p := p) zs
  have e : ∀ (a : OEnt) (l : List OEnt), OQ (a :: l) = a.N ++ OQ l := fun a l => by simp [OQ]
  split
  ·rw [e, e]; exact List.Sublist.append (List.Sublist.refl _) ih
  ·rw [e]; exact ih.trans (List.sublist_append_right _ _)
theorem cloneB (vb : Value) (xs : List Int) (L : Chunk) (hb : BS L vb xs) (hl : (xs.length : Int) ≤ 140737488355328) : Fn1 Tryz.prog 76 [vb] L (fun u L' => ∃ N, L' = N ++ L ∧ BS N u xs) := by
 intro w0; refine Spec.enter1 Tryz.func76 rfl Tryz.ntmps76 (by decide) ?_
 have hb0 := hb
 obtain ⟨a, c, rfl⟩ := hb.slice
 cases a with
 | none =>
  have hx : xs = [] := by
   rcases hb.rd.2 with ⟨h1, h2⟩ | ⟨b, k, cap, cc, e, fr, h1, _⟩
   ·exact List.eq_nil_of_length_eq_zero h2
   ·cases h1
  subst hx
  repeat' (first|refine Ga0 fun _=>?_|refine Ga1 ?_|refine Ga2 (fun _=>?_) fun _=>?_|refine Ga3 ?_|refine Ga4 fun _=>?_|fail)
  exact bodyK.ret (Res.one Tryz.results76) ⟨[], rfl, BS.nil _⟩
 | some ad =>
  repeat' (first|refine Ga0 fun _=>?_|refine Ga1 ?_|refine Ga2 (fun _=>?_) fun _=>?_|refine Ga3 ?_|refine Ga4 fun _=>?_|fail)
  rename_i bz
  have hrow : Row 5 1 [(bz, .cells #[] 5 (0, 0))] (.slice (some ⟨bz, 0, none⟩) 0 0) 0 (bv []) := ⟨rfl, .inr ⟨bz, 0, [], rfl, rfl, Nat.le_refl _, rfl⟩⟩
  refine OW.append hrow ii hb0.to.rd (fun v hv => by obtain ⟨k, _, rfl⟩ := List.mem_map.1 hv; infer_instance) (by omega) (fun v' N' hrow' => ?_)
  rw [Nat.zero_add, show bv [] ++ bv xs = bv xs from rfl] at hrow'
  have s1 := hrow'.sng
  repeat' (first|refine Ga0 fun _=>?_|refine Ga1 ?_|refine Ga2 (fun _=>?_) fun _=>?_|refine Ga3 ?_|refine Ga4 fun _=>?_|fail)
  exact bodyK.ret (Res.one Tryz.results76) ⟨N', rfl, ⟨hrow'.rd, hb0.byt, hb0.len⟩⟩
theorem op_push {op : Int → List Nat} {es : List MapEntry} {c : Nat} {zs : List OEnt} (h : OpOk op es c zs) (n : Int) (k : Nat) : ∃ gv QA N0 QB, (findI es n).getD (.slice none 0 0) = gv ∧ OQ zs = QA ++ (N0 ++ QB) ∧ Row 3 1 N0 gv (op n).length (inN (op n)) ∧
  ∀ v' N1, Row 3 1 N1 v' ((op n).length + 1) (inN (op n) ++ [.int .i64 (k : Int)]) → ∃ zs2, OpOk (opSet op n (op n ++ [k])) (putE .i64 n v' es c).1 (putE .i64 n v' es c).2 zs2 ∧ OQ zs2 = QA ++ (N1 ++ QB) := by
 cases hf : findI es n with
 | none =>
  have h0 := opok_none h hf
  refine ⟨_, OQ zs, [], [], rfl, by simp, by rw [h0]; exact Row.nil _ _, fun v' N1 hr => ⟨_, by rw [h0]; exact h.new hf (by rw [h0] at hr; exact hr), by rw [OQ_snoc]; simp⟩⟩
 | some v =>
  obtain ⟨A, z, B, rfl, hk, hv, hop, hno⟩ := opok_some h hf
  refine ⟨v, OQ A, z.N, OQ B, rfl, by rw [OQ_mid], by rw [← hv, hop]; exact h.row z (by simp), fun v' N1 hr => ⟨_, h.more hk hno (by simp) (v := v') (N := N1) (ks := op n ++ [k]) (by rw [inN_snoc]; simpa using hr), by rw [OQ_mid]⟩⟩
theorem op_look {op : Int → List Nat} {es : List MapEntry} {c : Nat} {zs : List OEnt} (h : OpOk op es c zs) (n : Int) : ∃ gv, (findI es n).getD (.slice none 0 0) = gv ∧ Rd (OQ zs) 1 gv (op n).length (inN (op n)) := by
 obtain ⟨gv, QA, N0, QB, h1, h2, h3, _⟩ := op_push h n 0
 exact ⟨gv, h1, by rw [h2]; exact h3.rd.mono fun q hq => by simp [hq]⟩
theorem bnd_thread {n : Int} (hn : ¬ isThread n) : ∀ l : List (Turn × Rp), bnd l n = none := by
 intro l
 have key : ∀ (l : List (Turn × Rp)) (b : Bnd), b n = none → (l.foldl (fun b x => bindStep b x.1 x.2) b) n = none := by
  intro l
  induction l with
  | nil => intro b h; exact h
  | cons y l ih =>
   intro b h
   refine ih _ ?_
   show bindStep b y.1 y.2 n = none
   unfold bindStep
   by_cases c1 : y.2.errno = 0 ∧ y.1.kind = 2
   ·simp only [if_pos c1, h]; simp
   ·by_cases c2 : y.2.errno = 0 ∧ (0 ≤ y.1.thread ∧ y.1.thread < 4) ∧ y.1.kind = 3
    ·have e : ¬ n = y.1.thread := fun e => hn (e ▸ c2.2.1)
     simp only [if_neg c1, if_pos c2, if_neg e, h]
    ·by_cases c3 : y.2.errno = 0 ∧ (0 ≤ y.1.thread ∧ y.1.thread < 4) ∧ y.1.kind = 4
     ·have e : ¬ n = y.1.thread := fun e => hn (e ▸ c3.2.1)
      simp only [if_neg c1, if_neg c2, if_pos c3, if_neg e, h]
     ·simp only [if_neg c1, if_neg c2, if_neg c3, h]
 exact key l _ rfl
theorem op_next {x : Hd} (hx : x ≠ (0, 0)) {w : Row} {P : List Row} {b' : Bnd} {p : PBnd} (hr : BRel x p b') (hb' : ∀ n, ¬ isThread n → b' n = none) {op1 : Int → List Nat} (h1 : ∀ m, op1 m = if begins x w ∧ w.t.thread = m then opAt x w.b P m ++ [(allOf x P).length] else if ends x w ∧ w.t.thread = m then [] else opAt x w.b P m) (m : Int) :
  opAt x b' (P ++ [w]) m = if decide (isThread m ∧ p m = some x) then op1 m else [] := by
 rw [opAt_snoc, ← h1]
 by_cases hm : isThread m
 ·by_cases h : b' m = some x
  ·rw [if_pos ((getD_some hx _).2 h), if_pos (decide_eq_true ⟨hm, (hr m hm).2 h⟩)]
  ·rw [if_neg (fun h2 => h ((getD_some hx _).1 h2)), if_neg (fun h2 => h ((hr m hm).1 (of_decide_eq_true h2).2))]
 ·rw [if_neg (fun h2 => by have := (getD_some hx _).1 h2; rw [hb' m hm] at this; cases this), if_neg (fun h2 => hm (of_decide_eq_true h2).1)]
theorem not_fine {x : Hd} {w : Row} (h : w.r.errno ≠ 0) : begins x w = false ∧ ¬ ends x w := ⟨decide_eq_false fun hb => h hb.1.2, fun he => h he.1.2⟩
theorem bind_no {b : Bnd} {t : Turn} {r : Rp} (h : r.errno ≠ 0) : bindStep b t r = b := by
 unfold bindStep
 rw [if_neg (fun h2 => h h2.1), if_neg (fun h2 => h h2.1), if_neg (fun h2 => h h2.1)]
end Go.Proofs.YtmnhooepaemlcaaGreat
