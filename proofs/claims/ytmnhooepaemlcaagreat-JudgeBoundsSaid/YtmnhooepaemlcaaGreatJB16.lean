/-
  For every input the law JudgeBounds returns true, and each argument reads behind the call as it read before. This text holds lemmas for it (part 16).
  Conditions: none.
-/
import Derived.Test.YtmnhooepaemlcaaGreatJB2
import Derived.Test.YtmnhooepaemlcaaGreatJB3
import Derived.Test.YtmnhooepaemlcaaGreatJB15
set_option linter.all false
namespace Go.Proofs.YtmnhooepaemlcaaGreat
open Go Go.Pw Go.Pw.Sc Go.Pw.Md Go.Pw.Jd
set_option maxRecDepth 100000
set_option maxHeartbeats 4000000
set_option synthInstance.maxHeartbeats 400000
set_option synthInstance.maxSize 2000
attribute [local irreducible] CW OW RW thenK blockK
attribute [local irreducible] scopeK loopK TRW ATW


instance : FuncT Tryz.prog 39 := ⟨_, _, _, Tryz.underlying39⟩
@[reducible] def zt : Turn := ⟨0, 0, 0, 0, 0, 0, 0, 0, 0, 0, 0, [], []⟩
@[reducible] def zr : Rp := ⟨0, 0, 0, 0, 0, 0, false, 0, 0, 0, []⟩
@[reducible] def ztC : List Value := [.int .i64 0, .int .i64 0, .int .i64 0, .int .i64 0, .int .i64 0, .int .i64 0, .int .i64 0, .int .u32 0, .int .u64 0, .int .u64 0, .int .u64 0, .slice none 0 0, .slice none 0 0]
@[reducible] def zrC : List Value := [.int .i64 0, .int .i64 0, .int .i64 0, .int .i64 0, .int .i64 0, .int .i64 0, .bool false, .int .i64 0, .int .u32 0, .int .i64 0, .slice none 0 0]
theorem lat_rep {α : Type} {s : Nat} {R : List Value → α → Prop} {c : List Value} {a : α} (h0 : c.length = s) (h : R c a) : ∀ n : Nat, LAt s R (List.replicate n c).flatten (List.replicate n a)
  | 0 => rfl
  | n + 1 => ⟨c, (List.replicate n c).flatten, by simp [List.replicate_succ], h0, h, lat_rep h0 h n⟩
theorem ztLS {L : Chunk} {b n : Nat} {e : TypeId} {fr : Nat × Nat} (hn : n ≤ 5000) [h : InC L b (.cells (List.replicate n ztC).flatten.toArray e fr)] : LS 13 TnAt L (.slice (some ⟨b, 0, none⟩) n n) (List.replicate n zt) :=
  ⟨⟨(List.replicate n ztC).flatten, by rw [List.length_replicate]; exact Rd.flat rfl (Nat.le_refl _), lat_rep (s := 13) (c := ztC) rfl ⟨_, _, rfl, BS.nil _, BS.nil _, ⟨by decide, by decide, by decide, by decide, by decide, by decide, by decide, by decide, by decide, by decide, by decide⟩⟩ n⟩, by rw [List.length_replicate]; omega⟩
theorem zrLS {L : Chunk} {b n : Nat} {e : TypeId} {fr : Nat × Nat} (hn : n ≤ 5000) [h : InC L b (.cells (List.replicate n zrC).flatten.toArray e fr)] : LS 11 RpAt L (.slice (some ⟨b, 0, none⟩) n n) (List.replicate n zr) :=
  ⟨⟨(List.replicate n zrC).flatten, by rw [List.length_replicate]; exact Rd.flat rfl (Nat.le_refl _), lat_rep (s := 11) (c := zrC) rfl ⟨_, rfl, BS.nil _, ⟨by decide, by decide, by decide, by decide, by decide, by decide, by decide, by decide, by decide⟩⟩ n⟩, by rw [List.length_replicate]; omega⟩
theorem rows_mem {l : List (Turn × Rp)} {w : Row} (h : w ∈ rows l) : ∃ x ∈ l, w.t = x.1 ∧ w.r = x.2 := by
  obtain ⟨i, hi, rfl⟩ := List.getElem_of_mem h
  have hi' : i < l.length := by rwa [rows_length] at hi
  have h1 := rows_get l hi'
  rw [List.getElem?_eq_getElem hi] at h1
  rw [Option.some.inj h1]
  exact ⟨_, List.getElem_mem hi', rfl, rfl⟩
theorem zrow {n m : Nat} {w : Row} (h : w ∈ rows ((List.replicate n zt).zip (List.replicate m zr))) : w.t = zt := by
  obtain ⟨x, hx, h1, _⟩ := rows_mem h
  rw [h1]
  exact List.eq_of_mem_replicate (List.of_mem_zip hx).1
theorem zquota {n m : Nat} (x : Hd) : quotaOf (rows ((List.replicate n zt).zip (List.replicate m zr))) x = (0, false) := by
  unfold quotaOf
  rw [List.find?_eq_none.2 fun w hw => ?_]
  unfold creates
  rw [decide_eq_true_iff]
  intro h
  have := h.1.1
  rw [zrow hw] at this
  exact absurd this (by decide)
theorem calls_none {x : Hd} : ∀ (l : List Row) (k : Nat), (∀ w ∈ l, w.t = zt) → callsOf x l k = []
  | [], _, _ => rfl
  | w :: l, k, h => by
    have hb : begins x w = false := decide_eq_false fun hh => by
      have := hh.1.1
      rw [h w (List.mem_cons_self ..)] at this
      exact absurd this (by decide)
    rw [callsOf, hb]
    exact calls_none l (k + 1) fun w hw => h w (List.mem_cons_of_mem _ hw)
theorem zcalls {n m : Nat} (x : Hd) : ((callsOf x (rows ((List.replicate n zt).zip (List.replicate m zr))) 0).filter fun c => !noWork c).length ≤ 1 := by
  rw [calls_none _ 0 fun w hw => zrow hw]; decide
theorem zno {n m : Nat} : ∀ w ∈ hist (List.replicate n zt) (List.replicate m zr), ¬ fine 1 w := fun w hw hf => by
  unfold hist at hw
  split at hw
  · cases hw
  · have := hf.1
    rw [zrow hw] at this
    exact absurd this (by decide)
theorem zats {n m : Nat} : (ats 0 (hist (List.replicate n zt) (List.replicate m zr))).length = if n ≠ m ∨ 4096 < n then 0 else n := by
  unfold hist
  simp only [List.length_replicate]
  split
  · rfl
  · rename_i h
    unfold ats
    rw [List.length_map, List.filter_eq_self.2 fun w hw => ?_]
    · rw [rows_length, List.length_zip, List.length_replicate, List.length_replicate]; omega
    · unfold keepsW
      rw [decide_eq_true_iff]
      left
      rw [zrow hw]
      decide
theorem judged_z {n m : Nat} {u : Value} (h : Judged (List.replicate n zt) (List.replicate m zr) (0, 1) u) : u = .tuple #[.agg #[.int .i64 0, .int .i64 0], .int .i64 (if n ≠ m then 2 else if 4096 < n then 3 else 311)] := by
  unfold Judged at h
  simp only [List.length_replicate, zquota, if_true] at h
  split at h
  · rename_i c; rw [if_pos c]; exact h
  · rename_i c
    rw [if_neg c]
    split at h
    · rename_i c; rw [if_pos c]; exact h
    · rename_i c; rw [if_neg c]; exact h
theorem timed_z {n m : Nat} {u : Value} (h : Timed (List.replicate n zt) (List.replicate m zr) (0, 1) u) : u = .tuple #[.bool false, .int .i64 (if n ≠ m then 2 else if 4096 < n then 3 else 311)] := by
  unfold Timed at h
  simp only [List.length_replicate, zquota, if_true] at h
  split at h
  · rename_i c; rw [if_pos c]; exact h
  · rename_i c
    rw [if_neg c]
    split at h
    · rename_i c; rw [if_pos c]; exact h
    · rename_i c; rw [if_neg c]; exact h
theorem histE_z {n m : Nat} : histE (List.replicate n zt) (List.replicate m zr) = if n ≠ m then 2 else if 4096 < n then 3 else 0 := by
  unfold histE
  simp only [List.length_replicate]

theorem judgeBounds (more less : Int) (L : Chunk) : Fn1 Tryz.prog 3 [.int .i64 more, .int .i64 less] L (fun u L' => u = .bool true ∧ L = L') := by
  intro w0; refine Spec.enterM2 Tryz.func3 rfl Tryz.ntmps3 (by decide) ?_
  by_cases c1 : more < -1
  · repeat' (first|refine Gi0 fun _=>?_|refine Gi1 ?_|refine CW.drawsTreeA (id := 4) (.fork [0, 2, 3, 4] 1 5 (.leaf [6, 5, 7]) (.leaf [1, 6, 7])) mixed (by kernel_rfl) ?_|refine TRW.fork ?_|refine TRW.leaf ?_|refine TRW.both ?_ ?_|refine Gi2 (fun _=>?_) fun _=>?_|refine Gi3 ?_|refine Gi4 fun _=>?_|fail)
    refine OW.call (works26 _) ?_
    rintro _ _ ⟨rfl, rfl⟩
    repeat' (first|refine Gi0 fun _=>?_|refine Gi1 ?_|refine CW.drawsTreeA (id := 4) (.fork [0, 2, 3, 4] 1 5 (.leaf [6, 5, 7]) (.leaf [1, 6, 7])) mixed (by kernel_rfl) ?_|refine TRW.fork ?_|refine TRW.leaf ?_|refine TRW.both ?_ ?_|refine Gi2 (fun _=>?_) fun _=>?_|refine Gi3 ?_|refine Gi4 fun _=>?_|fail)
    exact bodyM.retD L (Res.of1 Tryz.results3) ⟨rfl, rfl⟩
  by_cases c2 : 1 < more
  · repeat' (first|refine Gi0 fun _=>?_|refine Gi1 ?_|refine CW.drawsTreeA (id := 4) (.fork [0, 2, 3, 4] 1 5 (.leaf [6, 5, 7]) (.leaf [1, 6, 7])) mixed (by kernel_rfl) ?_|refine TRW.fork ?_|refine TRW.leaf ?_|refine TRW.both ?_ ?_|refine Gi2 (fun _=>?_) fun _=>?_|refine Gi3 ?_|refine Gi4 fun _=>?_|fail)
    refine OW.call (works26 _) ?_
    rintro _ _ ⟨rfl, rfl⟩
    repeat' (first|refine Gi0 fun _=>?_|refine Gi1 ?_|refine CW.drawsTreeA (id := 4) (.fork [0, 2, 3, 4] 1 5 (.leaf [6, 5, 7]) (.leaf [1, 6, 7])) mixed (by kernel_rfl) ?_|refine TRW.fork ?_|refine TRW.leaf ?_|refine TRW.both ?_ ?_|refine Gi2 (fun _=>?_) fun _=>?_|refine Gi3 ?_|refine Gi4 fun _=>?_|fail)
    exact bodyM.retD L (Res.of1 Tryz.results3) ⟨rfl, rfl⟩
  by_cases c3 : less < 0
  · repeat' (first|refine Gi0 fun _=>?_|refine Gi1 ?_|refine CW.drawsTreeA (id := 4) (.fork [0, 2, 3, 4] 1 5 (.leaf [6, 5, 7]) (.leaf [1, 6, 7])) mixed (by kernel_rfl) ?_|refine TRW.fork ?_|refine TRW.leaf ?_|refine TRW.both ?_ ?_|refine Gi2 (fun _=>?_) fun _=>?_|refine Gi3 ?_|refine Gi4 fun _=>?_|fail)
    refine OW.call (works26 _) ?_
    rintro _ _ ⟨rfl, rfl⟩
    repeat' (first|refine Gi0 fun _=>?_|refine Gi1 ?_|refine CW.drawsTreeA (id := 4) (.fork [0, 2, 3, 4] 1 5 (.leaf [6, 5, 7]) (.leaf [1, 6, 7])) mixed (by kernel_rfl) ?_|refine TRW.fork ?_|refine TRW.leaf ?_|refine TRW.both ?_ ?_|refine Gi2 (fun _=>?_) fun _=>?_|refine Gi3 ?_|refine Gi4 fun _=>?_|fail)
    exact bodyM.retD L (Res.of1 Tryz.results3) ⟨rfl, rfl⟩
  by_cases c4 : 2 < less
  · repeat' (first|refine Gi0 fun _=>?_|refine Gi1 ?_|refine CW.drawsTreeA (id := 4) (.fork [0, 2, 3, 4] 1 5 (.leaf [6, 5, 7]) (.leaf [1, 6, 7])) mixed (by kernel_rfl) ?_|refine TRW.fork ?_|refine TRW.leaf ?_|refine TRW.both ?_ ?_|refine Gi2 (fun _=>?_) fun _=>?_|refine Gi3 ?_|refine Gi4 fun _=>?_|fail)
    refine OW.call (works26 _) ?_
    rintro _ _ ⟨rfl, rfl⟩
    repeat' (first|refine Gi0 fun _=>?_|refine Gi1 ?_|refine CW.drawsTreeA (id := 4) (.fork [0, 2, 3, 4] 1 5 (.leaf [6, 5, 7]) (.leaf [1, 6, 7])) mixed (by kernel_rfl) ?_|refine TRW.fork ?_|refine TRW.leaf ?_|refine TRW.both ?_ ?_|refine Gi2 (fun _=>?_) fun _=>?_|refine Gi3 ?_|refine Gi4 fun _=>?_|fail)
    exact bodyM.retD L (Res.of1 Tryz.results3) ⟨rfl, rfl⟩
  obtain ⟨n, rfl⟩ : ∃ n : Nat, more = (n : Int) - 4096 := ⟨(more + 4096).toNat, by omega⟩
  obtain ⟨m, rfl⟩ : ∃ m : Nat, less = (n : Int) - m := ⟨((n : Int) - less).toNat, by omega⟩
  have hn5 : n ≤ 5000 := by omega
  have hm5 : m ≤ 5000 := by omega
  have hTn : ToN (4096 + ((n : Int) - 4096)) n := ⟨by omega⟩
  have hTm : ToN (4096 + ((n : Int) - 4096) - ((n : Int) - m)) m := ⟨by omega⟩
  repeat' (first|refine Gi0 fun _=>?_|refine Gi1 ?_|refine CW.drawsTreeA (id := 4) (.fork [0, 2, 3, 4] 1 5 (.leaf [6, 5, 7]) (.leaf [1, 6, 7])) mixed (by kernel_rfl) ?_|refine TRW.fork ?_|refine TRW.leaf ?_|refine TRW.both ?_ ?_|refine Gi2 (fun _=>?_) fun _=>?_|refine Gi3 ?_|refine Gi4 fun _=>?_|fail)
  refine CW.calm ?_
  repeat' (first|refine Gi0 fun _=>?_|refine Gi1 ?_|refine CW.drawsTreeA (id := 4) (.fork [0, 2, 3, 4] 1 5 (.leaf [6, 5, 7]) (.leaf [1, 6, 7])) mixed (by kernel_rfl) ?_|refine TRW.fork ?_|refine TRW.leaf ?_|refine TRW.both ?_ ?_|refine Gi2 (fun _=>?_) fun _=>?_|refine Gi3 ?_|refine Gi4 fun _=>?_|fail)
  · refine RW.makeSliceS (a := n) (c := n) ⟨by omega, by omega, by omega, by omega⟩ (fun b1 => pinAll ?_)
    repeat' (first|refine Gi0 fun _=>?_|refine Gi1 ?_|refine CW.drawsTreeA (id := 4) (.fork [0, 2, 3, 4] 1 5 (.leaf [6, 5, 7]) (.leaf [1, 6, 7])) mixed (by kernel_rfl) ?_|refine TRW.fork ?_|refine TRW.leaf ?_|refine TRW.both ?_ ?_|refine Gi2 (fun _=>?_) fun _=>?_|refine Gi3 ?_|refine Gi4 fun _=>?_|fail)
    refine RW.makeSliceS (a := m) (c := m) ⟨by omega, by omega, by omega, by omega⟩ (fun b2 => pinAll ?_)
    by_cases d1 : (0 : Int) < n - m
    · have hz : True := trivial
      have e1 : (if n ≠ m then (2 : Int) else if 4096 < n then 3 else 311) = 2 := by rw [if_pos (by omega)]
      have e2 : (if n ≠ m then (2 : Int) else if 4096 < n then 3 else 0) = 2 := by rw [if_pos (by omega)]
      have e3 : (if n ≠ m ∨ 4096 < n then 0 else n) = 0 := by rw [if_pos (.inl (by omega))]
      repeat' (first|refine Gi0 fun _=>?_|refine Gi1 ?_|refine CW.drawsTreeA (id := 4) (.fork [0, 2, 3, 4] 1 5 (.leaf [6, 5, 7]) (.leaf [1, 6, 7])) mixed (by kernel_rfl) ?_|refine TRW.fork ?_|refine TRW.leaf ?_|refine TRW.both ?_ ?_|refine Gi2 (fun _=>?_) fun _=>?_|refine Gi3 ?_|refine Gi4 fun _=>?_|fail)
      refine OW.call (jJudge 1 sortC1 _ _ (List.replicate n zt) (List.replicate m zr) (0, 1) _ (ztLS hn5) (zrLS hm5) (by decide) (zcalls _)) ?_
      rintro u _ ⟨hu, rfl⟩
      obtain rfl := judged_z hu
      clear hu
      rw [e1]
      repeat' (first|refine Gi0 fun _=>?_|refine Gi1 ?_|refine CW.drawsTreeA (id := 4) (.fork [0, 2, 3, 4] 1 5 (.leaf [6, 5, 7]) (.leaf [1, 6, 7])) mixed (by kernel_rfl) ?_|refine TRW.fork ?_|refine TRW.leaf ?_|refine TRW.both ?_ ?_|refine Gi2 (fun _=>?_) fun _=>?_|refine Gi3 ?_|refine Gi4 fun _=>?_|fail)
      refine OW.call (jTime _ _ (List.replicate n zt) (List.replicate m zr) (0, 1) _ (ztLS hn5) (zrLS hm5) (by decide)) ?_
      rintro u _ ⟨hu, rfl⟩
      obtain rfl := timed_z hu
      clear hu
      rw [e1]
      repeat' (first|refine Gi0 fun _=>?_|refine Gi1 ?_|refine CW.drawsTreeA (id := 4) (.fork [0, 2, 3, 4] 1 5 (.leaf [6, 5, 7]) (.leaf [1, 6, 7])) mixed (by kernel_rfl) ?_|refine TRW.fork ?_|refine TRW.leaf ?_|refine TRW.both ?_ ?_|refine Gi2 (fun _=>?_) fun _=>?_|refine Gi3 ?_|refine Gi4 fun _=>?_|fail)
      refine OW.call (jWithout _ _ (List.replicate n zt) (List.replicate m zr) 0 _ (ztLS hn5) (zrLS hm5)) ?_
      rintro _ _ ⟨N, w, rfl, rfl, hrow⟩
      rw [histE_z, e2]
      rw [zats, e3] at hrow
      obtain ⟨wa, wc, rfl, _⟩ := hrow.rd.isSlice
      clear hrow
      repeat' (first|refine Gi0 fun _=>?_|refine Gi1 ?_|refine CW.drawsTreeA (id := 4) (.fork [0, 2, 3, 4] 1 5 (.leaf [6, 5, 7]) (.leaf [1, 6, 7])) mixed (by kernel_rfl) ?_|refine TRW.fork ?_|refine TRW.leaf ?_|refine TRW.both ?_ ?_|refine Gi2 (fun _=>?_) fun _=>?_|refine Gi3 ?_|refine Gi4 fun _=>?_|fail)
      refine OW.call (jHandles _ _ (List.replicate n zt) (List.replicate m zr) _ (ztLS hn5) (zrLS hm5)) ?_
      rintro _ _ ⟨N2, v2, bh, rfl, rfl, _⟩
      repeat' (first|refine Gi0 fun _=>?_|refine Gi1 ?_|refine CW.drawsTreeA (id := 4) (.fork [0, 2, 3, 4] 1 5 (.leaf [6, 5, 7]) (.leaf [1, 6, 7])) mixed (by kernel_rfl) ?_|refine TRW.fork ?_|refine TRW.leaf ?_|refine TRW.both ?_ ?_|refine Gi2 (fun _=>?_) fun _=>?_|refine Gi3 ?_|refine Gi4 fun _=>?_|fail)
      refine OW.call (jHandles _ _ (List.replicate n zt) (List.replicate m zr) _ (ztLS hn5) (zrLS hm5)) ?_
      rintro _ _ ⟨N3, v3, bh3, rfl, rfl, hw3⟩
      repeat' (first|refine Gi0 fun _=>?_|refine Gi1 ?_|refine CW.drawsTreeA (id := 4) (.fork [0, 2, 3, 4] 1 5 (.leaf [6, 5, 7]) (.leaf [1, 6, 7])) mixed (by kernel_rfl) ?_|refine TRW.fork ?_|refine TRW.leaf ?_|refine TRW.both ?_ ?_|refine Gi2 (fun _=>?_) fun _=>?_|refine Gi3 ?_|refine Gi4 fun _=>?_|fail)
      refine CW.rangeFunc (fun lp DD rec hrec => ?_)
      refine (jHandles1 (.func (.yield lp) #[] #[]) v3 bh3 (hist (List.replicate n zt) (List.replicate m zr)) _ inferInstance (LS.to hw3 (fun c a h => RwAt.to c a h)) zno w0).mono ?_ (fun _ _ h => h.elim)
      rintro u _ rfl
      refine rangeK.nrm ?_
      repeat' (first|refine Gi0 fun _=>?_|refine Gi1 ?_|refine CW.drawsTreeA (id := 4) (.fork [0, 2, 3, 4] 1 5 (.leaf [6, 5, 7]) (.leaf [1, 6, 7])) mixed (by kernel_rfl) ?_|refine TRW.fork ?_|refine TRW.leaf ?_|refine TRW.both ?_ ?_|refine Gi2 (fun _=>?_) fun _=>?_|refine Gi3 ?_|refine Gi4 fun _=>?_|fail)
      refine OW.call (num26 _ _) ?_
      rintro _ _ ⟨rfl, rfl⟩
      repeat' (first|refine Gi0 fun _=>?_|refine Gi1 ?_|refine CW.drawsTreeA (id := 4) (.fork [0, 2, 3, 4] 1 5 (.leaf [6, 5, 7]) (.leaf [1, 6, 7])) mixed (by kernel_rfl) ?_|refine TRW.fork ?_|refine TRW.leaf ?_|refine TRW.both ?_ ?_|refine Gi2 (fun _=>?_) fun _=>?_|refine Gi3 ?_|refine Gi4 fun _=>?_|fail)
      refine OW.call (num26 _ _) ?_
      rintro _ _ ⟨rfl, rfl⟩
      repeat' (first|refine Gi0 fun _=>?_|refine Gi1 ?_|refine CW.drawsTreeA (id := 4) (.fork [0, 2, 3, 4] 1 5 (.leaf [6, 5, 7]) (.leaf [1, 6, 7])) mixed (by kernel_rfl) ?_|refine TRW.fork ?_|refine TRW.leaf ?_|refine TRW.both ?_ ?_|refine Gi2 (fun _=>?_) fun _=>?_|refine Gi3 ?_|refine Gi4 fun _=>?_|fail)
      refine OW.call (num26 _ _) ?_
      rintro _ _ ⟨rfl, rfl⟩
      repeat' (first|refine Gi0 fun _=>?_|refine Gi1 ?_|refine CW.drawsTreeA (id := 4) (.fork [0, 2, 3, 4] 1 5 (.leaf [6, 5, 7]) (.leaf [1, 6, 7])) mixed (by kernel_rfl) ?_|refine TRW.fork ?_|refine TRW.leaf ?_|refine TRW.both ?_ ?_|refine Gi2 (fun _=>?_) fun _=>?_|refine Gi3 ?_|refine Gi4 fun _=>?_|fail)
      refine OW.call (works26 _) ?_
      rintro _ _ ⟨rfl, rfl⟩
      repeat' (first|refine Gi0 fun _=>?_|refine Gi1 ?_|refine CW.drawsTreeA (id := 4) (.fork [0, 2, 3, 4] 1 5 (.leaf [6, 5, 7]) (.leaf [1, 6, 7])) mixed (by kernel_rfl) ?_|refine TRW.fork ?_|refine TRW.leaf ?_|refine TRW.both ?_ ?_|refine Gi2 (fun _=>?_) fun _=>?_|refine Gi3 ?_|refine Gi4 fun _=>?_|fail)
      exact bodyM.retM L (Res.of1 Tryz.results3) ⟨rfl, rfl⟩
    by_cases d2 : (0 : Int) < n - 4096
    · have hz : True := trivial
      have e1 : (if n ≠ m then (2 : Int) else if 4096 < n then 3 else 311) = 3 := by rw [if_neg (by omega), if_pos (by omega)]
      have e2 : (if n ≠ m then (2 : Int) else if 4096 < n then 3 else 0) = 3 := by rw [if_neg (by omega), if_pos (by omega)]
      have e3 : (if n ≠ m ∨ 4096 < n then 0 else n) = 0 := by rw [if_pos (.inr (by omega))]
      repeat' (first|refine Gi0 fun _=>?_|refine Gi1 ?_|refine CW.drawsTreeA (id := 4) (.fork [0, 2, 3, 4] 1 5 (.leaf [6, 5, 7]) (.leaf [1, 6, 7])) mixed (by kernel_rfl) ?_|refine TRW.fork ?_|refine TRW.leaf ?_|refine TRW.both ?_ ?_|refine Gi2 (fun _=>?_) fun _=>?_|refine Gi3 ?_|refine Gi4 fun _=>?_|fail)
      refine OW.call (jJudge 1 sortC1 _ _ (List.replicate n zt) (List.replicate m zr) (0, 1) _ (ztLS hn5) (zrLS hm5) (by decide) (zcalls _)) ?_
      rintro u _ ⟨hu, rfl⟩
      obtain rfl := judged_z hu
      clear hu
      rw [e1]
      repeat' (first|refine Gi0 fun _=>?_|refine Gi1 ?_|refine CW.drawsTreeA (id := 4) (.fork [0, 2, 3, 4] 1 5 (.leaf [6, 5, 7]) (.leaf [1, 6, 7])) mixed (by kernel_rfl) ?_|refine TRW.fork ?_|refine TRW.leaf ?_|refine TRW.both ?_ ?_|refine Gi2 (fun _=>?_) fun _=>?_|refine Gi3 ?_|refine Gi4 fun _=>?_|fail)
      refine OW.call (jTime _ _ (List.replicate n zt) (List.replicate m zr) (0, 1) _ (ztLS hn5) (zrLS hm5) (by decide)) ?_
      rintro u _ ⟨hu, rfl⟩
      obtain rfl := timed_z hu
      clear hu
      rw [e1]
      repeat' (first|refine Gi0 fun _=>?_|refine Gi1 ?_|refine CW.drawsTreeA (id := 4) (.fork [0, 2, 3, 4] 1 5 (.leaf [6, 5, 7]) (.leaf [1, 6, 7])) mixed (by kernel_rfl) ?_|refine TRW.fork ?_|refine TRW.leaf ?_|refine TRW.both ?_ ?_|refine Gi2 (fun _=>?_) fun _=>?_|refine Gi3 ?_|refine Gi4 fun _=>?_|fail)
      refine OW.call (jWithout _ _ (List.replicate n zt) (List.replicate m zr) 0 _ (ztLS hn5) (zrLS hm5)) ?_
      rintro _ _ ⟨N, w, rfl, rfl, hrow⟩
      rw [histE_z, e2]
      rw [zats, e3] at hrow
      obtain ⟨wa, wc, rfl, _⟩ := hrow.rd.isSlice
      clear hrow
      repeat' (first|refine Gi0 fun _=>?_|refine Gi1 ?_|refine CW.drawsTreeA (id := 4) (.fork [0, 2, 3, 4] 1 5 (.leaf [6, 5, 7]) (.leaf [1, 6, 7])) mixed (by kernel_rfl) ?_|refine TRW.fork ?_|refine TRW.leaf ?_|refine TRW.both ?_ ?_|refine Gi2 (fun _=>?_) fun _=>?_|refine Gi3 ?_|refine Gi4 fun _=>?_|fail)
      refine OW.call (jHandles _ _ (List.replicate n zt) (List.replicate m zr) _ (ztLS hn5) (zrLS hm5)) ?_
      rintro _ _ ⟨N2, v2, bh, rfl, rfl, _⟩
      repeat' (first|refine Gi0 fun _=>?_|refine Gi1 ?_|refine CW.drawsTreeA (id := 4) (.fork [0, 2, 3, 4] 1 5 (.leaf [6, 5, 7]) (.leaf [1, 6, 7])) mixed (by kernel_rfl) ?_|refine TRW.fork ?_|refine TRW.leaf ?_|refine TRW.both ?_ ?_|refine Gi2 (fun _=>?_) fun _=>?_|refine Gi3 ?_|refine Gi4 fun _=>?_|fail)
      refine OW.call (jHandles _ _ (List.replicate n zt) (List.replicate m zr) _ (ztLS hn5) (zrLS hm5)) ?_
      rintro _ _ ⟨N3, v3, bh3, rfl, rfl, hw3⟩
      repeat' (first|refine Gi0 fun _=>?_|refine Gi1 ?_|refine CW.drawsTreeA (id := 4) (.fork [0, 2, 3, 4] 1 5 (.leaf [6, 5, 7]) (.leaf [1, 6, 7])) mixed (by kernel_rfl) ?_|refine TRW.fork ?_|refine TRW.leaf ?_|refine TRW.both ?_ ?_|refine Gi2 (fun _=>?_) fun _=>?_|refine Gi3 ?_|refine Gi4 fun _=>?_|fail)
      refine CW.rangeFunc (fun lp DD rec hrec => ?_)
      refine (jHandles1 (.func (.yield lp) #[] #[]) v3 bh3 (hist (List.replicate n zt) (List.replicate m zr)) _ inferInstance (LS.to hw3 (fun c a h => RwAt.to c a h)) zno w0).mono ?_ (fun _ _ h => h.elim)
      rintro u _ rfl
      refine rangeK.nrm ?_
      repeat' (first|refine Gi0 fun _=>?_|refine Gi1 ?_|refine CW.drawsTreeA (id := 4) (.fork [0, 2, 3, 4] 1 5 (.leaf [6, 5, 7]) (.leaf [1, 6, 7])) mixed (by kernel_rfl) ?_|refine TRW.fork ?_|refine TRW.leaf ?_|refine TRW.both ?_ ?_|refine Gi2 (fun _=>?_) fun _=>?_|refine Gi3 ?_|refine Gi4 fun _=>?_|fail)
      refine OW.call (num26 _ _) ?_
      rintro _ _ ⟨rfl, rfl⟩
      repeat' (first|refine Gi0 fun _=>?_|refine Gi1 ?_|refine CW.drawsTreeA (id := 4) (.fork [0, 2, 3, 4] 1 5 (.leaf [6, 5, 7]) (.leaf [1, 6, 7])) mixed (by kernel_rfl) ?_|refine TRW.fork ?_|refine TRW.leaf ?_|refine TRW.both ?_ ?_|refine Gi2 (fun _=>?_) fun _=>?_|refine Gi3 ?_|refine Gi4 fun _=>?_|fail)
      refine OW.call (num26 _ _) ?_
      rintro _ _ ⟨rfl, rfl⟩
      repeat' (first|refine Gi0 fun _=>?_|refine Gi1 ?_|refine CW.drawsTreeA (id := 4) (.fork [0, 2, 3, 4] 1 5 (.leaf [6, 5, 7]) (.leaf [1, 6, 7])) mixed (by kernel_rfl) ?_|refine TRW.fork ?_|refine TRW.leaf ?_|refine TRW.both ?_ ?_|refine Gi2 (fun _=>?_) fun _=>?_|refine Gi3 ?_|refine Gi4 fun _=>?_|fail)
      refine OW.call (num26 _ _) ?_
      rintro _ _ ⟨rfl, rfl⟩
      repeat' (first|refine Gi0 fun _=>?_|refine Gi1 ?_|refine CW.drawsTreeA (id := 4) (.fork [0, 2, 3, 4] 1 5 (.leaf [6, 5, 7]) (.leaf [1, 6, 7])) mixed (by kernel_rfl) ?_|refine TRW.fork ?_|refine TRW.leaf ?_|refine TRW.both ?_ ?_|refine Gi2 (fun _=>?_) fun _=>?_|refine Gi3 ?_|refine Gi4 fun _=>?_|fail)
      refine OW.call (works26 _) ?_
      rintro _ _ ⟨rfl, rfl⟩
      repeat' (first|refine Gi0 fun _=>?_|refine Gi1 ?_|refine CW.drawsTreeA (id := 4) (.fork [0, 2, 3, 4] 1 5 (.leaf [6, 5, 7]) (.leaf [1, 6, 7])) mixed (by kernel_rfl) ?_|refine TRW.fork ?_|refine TRW.leaf ?_|refine TRW.both ?_ ?_|refine Gi2 (fun _=>?_) fun _=>?_|refine Gi3 ?_|refine Gi4 fun _=>?_|fail)
      exact bodyM.retM L (Res.of1 Tryz.results3) ⟨rfl, rfl⟩
    · have hz : True := trivial
      have e1 : (if n ≠ m then (2 : Int) else if 4096 < n then 3 else 311) = 311 := by rw [if_neg (by omega), if_neg (by omega)]
      have e2 : (if n ≠ m then (2 : Int) else if 4096 < n then 3 else 0) = 0 := by rw [if_neg (by omega), if_neg (by omega)]
      have e3 : (if n ≠ m ∨ 4096 < n then 0 else n) = n := by rw [if_neg (by omega)]
      repeat' (first|refine Gi0 fun _=>?_|refine Gi1 ?_|refine CW.drawsTreeA (id := 4) (.fork [0, 2, 3, 4] 1 5 (.leaf [6, 5, 7]) (.leaf [1, 6, 7])) mixed (by kernel_rfl) ?_|refine TRW.fork ?_|refine TRW.leaf ?_|refine TRW.both ?_ ?_|refine Gi2 (fun _=>?_) fun _=>?_|refine Gi3 ?_|refine Gi4 fun _=>?_|fail)
      refine OW.call (jJudge 1 sortC1 _ _ (List.replicate n zt) (List.replicate m zr) (0, 1) _ (ztLS hn5) (zrLS hm5) (by decide) (zcalls _)) ?_
      rintro u _ ⟨hu, rfl⟩
      obtain rfl := judged_z hu
      clear hu
      rw [e1]
      repeat' (first|refine Gi0 fun _=>?_|refine Gi1 ?_|refine CW.drawsTreeA (id := 4) (.fork [0, 2, 3, 4] 1 5 (.leaf [6, 5, 7]) (.leaf [1, 6, 7])) mixed (by kernel_rfl) ?_|refine TRW.fork ?_|refine TRW.leaf ?_|refine TRW.both ?_ ?_|refine Gi2 (fun _=>?_) fun _=>?_|refine Gi3 ?_|refine Gi4 fun _=>?_|fail)
      refine OW.call (jTime _ _ (List.replicate n zt) (List.replicate m zr) (0, 1) _ (ztLS hn5) (zrLS hm5) (by decide)) ?_
      rintro u _ ⟨hu, rfl⟩
      obtain rfl := timed_z hu
      clear hu
      rw [e1]
      repeat' (first|refine Gi0 fun _=>?_|refine Gi1 ?_|refine CW.drawsTreeA (id := 4) (.fork [0, 2, 3, 4] 1 5 (.leaf [6, 5, 7]) (.leaf [1, 6, 7])) mixed (by kernel_rfl) ?_|refine TRW.fork ?_|refine TRW.leaf ?_|refine TRW.both ?_ ?_|refine Gi2 (fun _=>?_) fun _=>?_|refine Gi3 ?_|refine Gi4 fun _=>?_|fail)
      refine OW.call (jWithout _ _ (List.replicate n zt) (List.replicate m zr) 0 _ (ztLS hn5) (zrLS hm5)) ?_
      rintro _ _ ⟨N, w, rfl, rfl, hrow⟩
      rw [histE_z, e2]
      rw [zats, e3] at hrow
      obtain ⟨wa, wc, rfl, _⟩ := hrow.rd.isSlice
      clear hrow
      repeat' (first|refine Gi0 fun _=>?_|refine Gi1 ?_|refine CW.drawsTreeA (id := 4) (.fork [0, 2, 3, 4] 1 5 (.leaf [6, 5, 7]) (.leaf [1, 6, 7])) mixed (by kernel_rfl) ?_|refine TRW.fork ?_|refine TRW.leaf ?_|refine TRW.both ?_ ?_|refine Gi2 (fun _=>?_) fun _=>?_|refine Gi3 ?_|refine Gi4 fun _=>?_|fail)
      refine OW.call (jHandles _ _ (List.replicate n zt) (List.replicate m zr) _ (ztLS hn5) (zrLS hm5)) ?_
      rintro _ _ ⟨N2, v2, bh, rfl, rfl, _⟩
      repeat' (first|refine Gi0 fun _=>?_|refine Gi1 ?_|refine CW.drawsTreeA (id := 4) (.fork [0, 2, 3, 4] 1 5 (.leaf [6, 5, 7]) (.leaf [1, 6, 7])) mixed (by kernel_rfl) ?_|refine TRW.fork ?_|refine TRW.leaf ?_|refine TRW.both ?_ ?_|refine Gi2 (fun _=>?_) fun _=>?_|refine Gi3 ?_|refine Gi4 fun _=>?_|fail)
      refine OW.call (jHandles _ _ (List.replicate n zt) (List.replicate m zr) _ (ztLS hn5) (zrLS hm5)) ?_
      rintro _ _ ⟨N3, v3, bh3, rfl, rfl, hw3⟩
      repeat' (first|refine Gi0 fun _=>?_|refine Gi1 ?_|refine CW.drawsTreeA (id := 4) (.fork [0, 2, 3, 4] 1 5 (.leaf [6, 5, 7]) (.leaf [1, 6, 7])) mixed (by kernel_rfl) ?_|refine TRW.fork ?_|refine TRW.leaf ?_|refine TRW.both ?_ ?_|refine Gi2 (fun _=>?_) fun _=>?_|refine Gi3 ?_|refine Gi4 fun _=>?_|fail)
      refine CW.rangeFunc (fun lp DD rec hrec => ?_)
      refine (jHandles1 (.func (.yield lp) #[] #[]) v3 bh3 (hist (List.replicate n zt) (List.replicate m zr)) _ inferInstance (LS.to hw3 (fun c a h => RwAt.to c a h)) zno w0).mono ?_ (fun _ _ h => h.elim)
      rintro u _ rfl
      refine rangeK.nrm ?_
      repeat' (first|refine Gi0 fun _=>?_|refine Gi1 ?_|refine CW.drawsTreeA (id := 4) (.fork [0, 2, 3, 4] 1 5 (.leaf [6, 5, 7]) (.leaf [1, 6, 7])) mixed (by kernel_rfl) ?_|refine TRW.fork ?_|refine TRW.leaf ?_|refine TRW.both ?_ ?_|refine Gi2 (fun _=>?_) fun _=>?_|refine Gi3 ?_|refine Gi4 fun _=>?_|fail)
      refine OW.call (num26 _ _) ?_
      rintro _ _ ⟨rfl, rfl⟩
      repeat' (first|refine Gi0 fun _=>?_|refine Gi1 ?_|refine CW.drawsTreeA (id := 4) (.fork [0, 2, 3, 4] 1 5 (.leaf [6, 5, 7]) (.leaf [1, 6, 7])) mixed (by kernel_rfl) ?_|refine TRW.fork ?_|refine TRW.leaf ?_|refine TRW.both ?_ ?_|refine Gi2 (fun _=>?_) fun _=>?_|refine Gi3 ?_|refine Gi4 fun _=>?_|fail)
      refine OW.call (num26 _ _) ?_
      rintro _ _ ⟨rfl, rfl⟩
      repeat' (first|refine Gi0 fun _=>?_|refine Gi1 ?_|refine CW.drawsTreeA (id := 4) (.fork [0, 2, 3, 4] 1 5 (.leaf [6, 5, 7]) (.leaf [1, 6, 7])) mixed (by kernel_rfl) ?_|refine TRW.fork ?_|refine TRW.leaf ?_|refine TRW.both ?_ ?_|refine Gi2 (fun _=>?_) fun _=>?_|refine Gi3 ?_|refine Gi4 fun _=>?_|fail)
      refine OW.call (num26 _ _) ?_
      rintro _ _ ⟨rfl, rfl⟩
      repeat' (first|refine Gi0 fun _=>?_|refine Gi1 ?_|refine CW.drawsTreeA (id := 4) (.fork [0, 2, 3, 4] 1 5 (.leaf [6, 5, 7]) (.leaf [1, 6, 7])) mixed (by kernel_rfl) ?_|refine TRW.fork ?_|refine TRW.leaf ?_|refine TRW.both ?_ ?_|refine Gi2 (fun _=>?_) fun _=>?_|refine Gi3 ?_|refine Gi4 fun _=>?_|fail)
      refine OW.call (works26 _) ?_
      rintro _ _ ⟨rfl, rfl⟩
      repeat' (first|refine Gi0 fun _=>?_|refine Gi1 ?_|refine CW.drawsTreeA (id := 4) (.fork [0, 2, 3, 4] 1 5 (.leaf [6, 5, 7]) (.leaf [1, 6, 7])) mixed (by kernel_rfl) ?_|refine TRW.fork ?_|refine TRW.leaf ?_|refine TRW.both ?_ ?_|refine Gi2 (fun _=>?_) fun _=>?_|refine Gi3 ?_|refine Gi4 fun _=>?_|fail)
      exact bodyM.retM L (Res.of1 Tryz.results3) ⟨rfl, rfl⟩
  · refine RW.makeSliceS (a := m) (c := m) ⟨by omega, by omega, by omega, by omega⟩ (fun b2 => pinAll ?_)
    repeat' (first|refine Gi0 fun _=>?_|refine Gi1 ?_|refine CW.drawsTreeA (id := 4) (.fork [0, 2, 3, 4] 1 5 (.leaf [6, 5, 7]) (.leaf [1, 6, 7])) mixed (by kernel_rfl) ?_|refine TRW.fork ?_|refine TRW.leaf ?_|refine TRW.both ?_ ?_|refine Gi2 (fun _=>?_) fun _=>?_|refine Gi3 ?_|refine Gi4 fun _=>?_|fail)
    refine RW.makeSliceS (a := n) (c := n) ⟨by omega, by omega, by omega, by omega⟩ (fun b1 => pinAll ?_)
    by_cases d1 : (0 : Int) < n - m
    · have hz : True := trivial
      have e1 : (if n ≠ m then (2 : Int) else if 4096 < n then 3 else 311) = 2 := by rw [if_pos (by omega)]
      have e2 : (if n ≠ m then (2 : Int) else if 4096 < n then 3 else 0) = 2 := by rw [if_pos (by omega)]
      have e3 : (if n ≠ m ∨ 4096 < n then 0 else n) = 0 := by rw [if_pos (.inl (by omega))]
      repeat' (first|refine Gi0 fun _=>?_|refine Gi1 ?_|refine CW.drawsTreeA (id := 4) (.fork [0, 2, 3, 4] 1 5 (.leaf [6, 5, 7]) (.leaf [1, 6, 7])) mixed (by kernel_rfl) ?_|refine TRW.fork ?_|refine TRW.leaf ?_|refine TRW.both ?_ ?_|refine Gi2 (fun _=>?_) fun _=>?_|refine Gi3 ?_|refine Gi4 fun _=>?_|fail)
      refine OW.call (jJudge 1 sortC1 _ _ (List.replicate n zt) (List.replicate m zr) (0, 1) _ (ztLS hn5) (zrLS hm5) (by decide) (zcalls _)) ?_
      rintro u _ ⟨hu, rfl⟩
      obtain rfl := judged_z hu
      clear hu
      rw [e1]
      repeat' (first|refine Gi0 fun _=>?_|refine Gi1 ?_|refine CW.drawsTreeA (id := 4) (.fork [0, 2, 3, 4] 1 5 (.leaf [6, 5, 7]) (.leaf [1, 6, 7])) mixed (by kernel_rfl) ?_|refine TRW.fork ?_|refine TRW.leaf ?_|refine TRW.both ?_ ?_|refine Gi2 (fun _=>?_) fun _=>?_|refine Gi3 ?_|refine Gi4 fun _=>?_|fail)
      refine OW.call (jTime _ _ (List.replicate n zt) (List.replicate m zr) (0, 1) _ (ztLS hn5) (zrLS hm5) (by decide)) ?_
      rintro u _ ⟨hu, rfl⟩
      obtain rfl := timed_z hu
      clear hu
      rw [e1]
      repeat' (first|refine Gi0 fun _=>?_|refine Gi1 ?_|refine CW.drawsTreeA (id := 4) (.fork [0, 2, 3, 4] 1 5 (.leaf [6, 5, 7]) (.leaf [1, 6, 7])) mixed (by kernel_rfl) ?_|refine TRW.fork ?_|refine TRW.leaf ?_|refine TRW.both ?_ ?_|refine Gi2 (fun _=>?_) fun _=>?_|refine Gi3 ?_|refine Gi4 fun _=>?_|fail)
      refine OW.call (jWithout _ _ (List.replicate n zt) (List.replicate m zr) 0 _ (ztLS hn5) (zrLS hm5)) ?_
      rintro _ _ ⟨N, w, rfl, rfl, hrow⟩
      rw [histE_z, e2]
      rw [zats, e3] at hrow
      obtain ⟨wa, wc, rfl, _⟩ := hrow.rd.isSlice
      clear hrow
      repeat' (first|refine Gi0 fun _=>?_|refine Gi1 ?_|refine CW.drawsTreeA (id := 4) (.fork [0, 2, 3, 4] 1 5 (.leaf [6, 5, 7]) (.leaf [1, 6, 7])) mixed (by kernel_rfl) ?_|refine TRW.fork ?_|refine TRW.leaf ?_|refine TRW.both ?_ ?_|refine Gi2 (fun _=>?_) fun _=>?_|refine Gi3 ?_|refine Gi4 fun _=>?_|fail)
      refine OW.call (jHandles _ _ (List.replicate n zt) (List.replicate m zr) _ (ztLS hn5) (zrLS hm5)) ?_
      rintro _ _ ⟨N2, v2, bh, rfl, rfl, _⟩
      repeat' (first|refine Gi0 fun _=>?_|refine Gi1 ?_|refine CW.drawsTreeA (id := 4) (.fork [0, 2, 3, 4] 1 5 (.leaf [6, 5, 7]) (.leaf [1, 6, 7])) mixed (by kernel_rfl) ?_|refine TRW.fork ?_|refine TRW.leaf ?_|refine TRW.both ?_ ?_|refine Gi2 (fun _=>?_) fun _=>?_|refine Gi3 ?_|refine Gi4 fun _=>?_|fail)
      refine OW.call (jHandles _ _ (List.replicate n zt) (List.replicate m zr) _ (ztLS hn5) (zrLS hm5)) ?_
      rintro _ _ ⟨N3, v3, bh3, rfl, rfl, hw3⟩
      repeat' (first|refine Gi0 fun _=>?_|refine Gi1 ?_|refine CW.drawsTreeA (id := 4) (.fork [0, 2, 3, 4] 1 5 (.leaf [6, 5, 7]) (.leaf [1, 6, 7])) mixed (by kernel_rfl) ?_|refine TRW.fork ?_|refine TRW.leaf ?_|refine TRW.both ?_ ?_|refine Gi2 (fun _=>?_) fun _=>?_|refine Gi3 ?_|refine Gi4 fun _=>?_|fail)
      refine CW.rangeFunc (fun lp DD rec hrec => ?_)
      refine (jHandles1 (.func (.yield lp) #[] #[]) v3 bh3 (hist (List.replicate n zt) (List.replicate m zr)) _ inferInstance (LS.to hw3 (fun c a h => RwAt.to c a h)) zno w0).mono ?_ (fun _ _ h => h.elim)
      rintro u _ rfl
      refine rangeK.nrm ?_
      repeat' (first|refine Gi0 fun _=>?_|refine Gi1 ?_|refine CW.drawsTreeA (id := 4) (.fork [0, 2, 3, 4] 1 5 (.leaf [6, 5, 7]) (.leaf [1, 6, 7])) mixed (by kernel_rfl) ?_|refine TRW.fork ?_|refine TRW.leaf ?_|refine TRW.both ?_ ?_|refine Gi2 (fun _=>?_) fun _=>?_|refine Gi3 ?_|refine Gi4 fun _=>?_|fail)
      refine OW.call (num26 _ _) ?_
      rintro _ _ ⟨rfl, rfl⟩
      repeat' (first|refine Gi0 fun _=>?_|refine Gi1 ?_|refine CW.drawsTreeA (id := 4) (.fork [0, 2, 3, 4] 1 5 (.leaf [6, 5, 7]) (.leaf [1, 6, 7])) mixed (by kernel_rfl) ?_|refine TRW.fork ?_|refine TRW.leaf ?_|refine TRW.both ?_ ?_|refine Gi2 (fun _=>?_) fun _=>?_|refine Gi3 ?_|refine Gi4 fun _=>?_|fail)
      refine OW.call (num26 _ _) ?_
      rintro _ _ ⟨rfl, rfl⟩
      repeat' (first|refine Gi0 fun _=>?_|refine Gi1 ?_|refine CW.drawsTreeA (id := 4) (.fork [0, 2, 3, 4] 1 5 (.leaf [6, 5, 7]) (.leaf [1, 6, 7])) mixed (by kernel_rfl) ?_|refine TRW.fork ?_|refine TRW.leaf ?_|refine TRW.both ?_ ?_|refine Gi2 (fun _=>?_) fun _=>?_|refine Gi3 ?_|refine Gi4 fun _=>?_|fail)
      refine OW.call (num26 _ _) ?_
      rintro _ _ ⟨rfl, rfl⟩
      repeat' (first|refine Gi0 fun _=>?_|refine Gi1 ?_|refine CW.drawsTreeA (id := 4) (.fork [0, 2, 3, 4] 1 5 (.leaf [6, 5, 7]) (.leaf [1, 6, 7])) mixed (by kernel_rfl) ?_|refine TRW.fork ?_|refine TRW.leaf ?_|refine TRW.both ?_ ?_|refine Gi2 (fun _=>?_) fun _=>?_|refine Gi3 ?_|refine Gi4 fun _=>?_|fail)
      refine OW.call (works26 _) ?_
      rintro _ _ ⟨rfl, rfl⟩
      repeat' (first|refine Gi0 fun _=>?_|refine Gi1 ?_|refine CW.drawsTreeA (id := 4) (.fork [0, 2, 3, 4] 1 5 (.leaf [6, 5, 7]) (.leaf [1, 6, 7])) mixed (by kernel_rfl) ?_|refine TRW.fork ?_|refine TRW.leaf ?_|refine TRW.both ?_ ?_|refine Gi2 (fun _=>?_) fun _=>?_|refine Gi3 ?_|refine Gi4 fun _=>?_|fail)
      exact bodyM.retM L (Res.of1 Tryz.results3) ⟨rfl, rfl⟩
    by_cases d2 : (0 : Int) < n - 4096
    · have hz : True := trivial
      have e1 : (if n ≠ m then (2 : Int) else if 4096 < n then 3 else 311) = 3 := by rw [if_neg (by omega), if_pos (by omega)]
      have e2 : (if n ≠ m then (2 : Int) else if 4096 < n then 3 else 0) = 3 := by rw [if_neg (by omega), if_pos (by omega)]
      have e3 : (if n ≠ m ∨ 4096 < n then 0 else n) = 0 := by rw [if_pos (.inr (by omega))]
      repeat' (first|refine Gi0 fun _=>?_|refine Gi1 ?_|refine CW.drawsTreeA (id := 4) (.fork [0, 2, 3, 4] 1 5 (.leaf [6, 5, 7]) (.leaf [1, 6, 7])) mixed (by kernel_rfl) ?_|refine TRW.fork ?_|refine TRW.leaf ?_|refine TRW.both ?_ ?_|refine Gi2 (fun _=>?_) fun _=>?_|refine Gi3 ?_|refine Gi4 fun _=>?_|fail)
      refine OW.call (jJudge 1 sortC1 _ _ (List.replicate n zt) (List.replicate m zr) (0, 1) _ (ztLS hn5) (zrLS hm5) (by decide) (zcalls _)) ?_
      rintro u _ ⟨hu, rfl⟩
      obtain rfl := judged_z hu
      clear hu
      rw [e1]
      repeat' (first|refine Gi0 fun _=>?_|refine Gi1 ?_|refine CW.drawsTreeA (id := 4) (.fork [0, 2, 3, 4] 1 5 (.leaf [6, 5, 7]) (.leaf [1, 6, 7])) mixed (by kernel_rfl) ?_|refine TRW.fork ?_|refine TRW.leaf ?_|refine TRW.both ?_ ?_|refine Gi2 (fun _=>?_) fun _=>?_|refine Gi3 ?_|refine Gi4 fun _=>?_|fail)
      refine OW.call (jTime _ _ (List.replicate n zt) (List.replicate m zr) (0, 1) _ (ztLS hn5) (zrLS hm5) (by decide)) ?_
      rintro u _ ⟨hu, rfl⟩
      obtain rfl := timed_z hu
      clear hu
      rw [e1]
      repeat' (first|refine Gi0 fun _=>?_|refine Gi1 ?_|refine CW.drawsTreeA (id := 4) (.fork [0, 2, 3, 4] 1 5 (.leaf [6, 5, 7]) (.leaf [1, 6, 7])) mixed (by kernel_rfl) ?_|refine TRW.fork ?_|refine TRW.leaf ?_|refine TRW.both ?_ ?_|refine Gi2 (fun _=>?_) fun _=>?_|refine Gi3 ?_|refine Gi4 fun _=>?_|fail)
      refine OW.call (jWithout _ _ (List.replicate n zt) (List.replicate m zr) 0 _ (ztLS hn5) (zrLS hm5)) ?_
      rintro _ _ ⟨N, w, rfl, rfl, hrow⟩
      rw [histE_z, e2]
      rw [zats, e3] at hrow
      obtain ⟨wa, wc, rfl, _⟩ := hrow.rd.isSlice
      clear hrow
      repeat' (first|refine Gi0 fun _=>?_|refine Gi1 ?_|refine CW.drawsTreeA (id := 4) (.fork [0, 2, 3, 4] 1 5 (.leaf [6, 5, 7]) (.leaf [1, 6, 7])) mixed (by kernel_rfl) ?_|refine TRW.fork ?_|refine TRW.leaf ?_|refine TRW.both ?_ ?_|refine Gi2 (fun _=>?_) fun _=>?_|refine Gi3 ?_|refine Gi4 fun _=>?_|fail)
      refine OW.call (jHandles _ _ (List.replicate n zt) (List.replicate m zr) _ (ztLS hn5) (zrLS hm5)) ?_
      rintro _ _ ⟨N2, v2, bh, rfl, rfl, _⟩
      repeat' (first|refine Gi0 fun _=>?_|refine Gi1 ?_|refine CW.drawsTreeA (id := 4) (.fork [0, 2, 3, 4] 1 5 (.leaf [6, 5, 7]) (.leaf [1, 6, 7])) mixed (by kernel_rfl) ?_|refine TRW.fork ?_|refine TRW.leaf ?_|refine TRW.both ?_ ?_|refine Gi2 (fun _=>?_) fun _=>?_|refine Gi3 ?_|refine Gi4 fun _=>?_|fail)
      refine OW.call (jHandles _ _ (List.replicate n zt) (List.replicate m zr) _ (ztLS hn5) (zrLS hm5)) ?_
      rintro _ _ ⟨N3, v3, bh3, rfl, rfl, hw3⟩
      repeat' (first|refine Gi0 fun _=>?_|refine Gi1 ?_|refine CW.drawsTreeA (id := 4) (.fork [0, 2, 3, 4] 1 5 (.leaf [6, 5, 7]) (.leaf [1, 6, 7])) mixed (by kernel_rfl) ?_|refine TRW.fork ?_|refine TRW.leaf ?_|refine TRW.both ?_ ?_|refine Gi2 (fun _=>?_) fun _=>?_|refine Gi3 ?_|refine Gi4 fun _=>?_|fail)
      refine CW.rangeFunc (fun lp DD rec hrec => ?_)
      refine (jHandles1 (.func (.yield lp) #[] #[]) v3 bh3 (hist (List.replicate n zt) (List.replicate m zr)) _ inferInstance (LS.to hw3 (fun c a h => RwAt.to c a h)) zno w0).mono ?_ (fun _ _ h => h.elim)
      rintro u _ rfl
      refine rangeK.nrm ?_
      repeat' (first|refine Gi0 fun _=>?_|refine Gi1 ?_|refine CW.drawsTreeA (id := 4) (.fork [0, 2, 3, 4] 1 5 (.leaf [6, 5, 7]) (.leaf [1, 6, 7])) mixed (by kernel_rfl) ?_|refine TRW.fork ?_|refine TRW.leaf ?_|refine TRW.both ?_ ?_|refine Gi2 (fun _=>?_) fun _=>?_|refine Gi3 ?_|refine Gi4 fun _=>?_|fail)
      refine OW.call (num26 _ _) ?_
      rintro _ _ ⟨rfl, rfl⟩
      repeat' (first|refine Gi0 fun _=>?_|refine Gi1 ?_|refine CW.drawsTreeA (id := 4) (.fork [0, 2, 3, 4] 1 5 (.leaf [6, 5, 7]) (.leaf [1, 6, 7])) mixed (by kernel_rfl) ?_|refine TRW.fork ?_|refine TRW.leaf ?_|refine TRW.both ?_ ?_|refine Gi2 (fun _=>?_) fun _=>?_|refine Gi3 ?_|refine Gi4 fun _=>?_|fail)
      refine OW.call (num26 _ _) ?_
      rintro _ _ ⟨rfl, rfl⟩
      repeat' (first|refine Gi0 fun _=>?_|refine Gi1 ?_|refine CW.drawsTreeA (id := 4) (.fork [0, 2, 3, 4] 1 5 (.leaf [6, 5, 7]) (.leaf [1, 6, 7])) mixed (by kernel_rfl) ?_|refine TRW.fork ?_|refine TRW.leaf ?_|refine TRW.both ?_ ?_|refine Gi2 (fun _=>?_) fun _=>?_|refine Gi3 ?_|refine Gi4 fun _=>?_|fail)
      refine OW.call (num26 _ _) ?_
      rintro _ _ ⟨rfl, rfl⟩
      repeat' (first|refine Gi0 fun _=>?_|refine Gi1 ?_|refine CW.drawsTreeA (id := 4) (.fork [0, 2, 3, 4] 1 5 (.leaf [6, 5, 7]) (.leaf [1, 6, 7])) mixed (by kernel_rfl) ?_|refine TRW.fork ?_|refine TRW.leaf ?_|refine TRW.both ?_ ?_|refine Gi2 (fun _=>?_) fun _=>?_|refine Gi3 ?_|refine Gi4 fun _=>?_|fail)
      refine OW.call (works26 _) ?_
      rintro _ _ ⟨rfl, rfl⟩
      repeat' (first|refine Gi0 fun _=>?_|refine Gi1 ?_|refine CW.drawsTreeA (id := 4) (.fork [0, 2, 3, 4] 1 5 (.leaf [6, 5, 7]) (.leaf [1, 6, 7])) mixed (by kernel_rfl) ?_|refine TRW.fork ?_|refine TRW.leaf ?_|refine TRW.both ?_ ?_|refine Gi2 (fun _=>?_) fun _=>?_|refine Gi3 ?_|refine Gi4 fun _=>?_|fail)
      exact bodyM.retM L (Res.of1 Tryz.results3) ⟨rfl, rfl⟩
    · have hz : True := trivial
      have e1 : (if n ≠ m then (2 : Int) else if 4096 < n then 3 else 311) = 311 := by rw [if_neg (by omega), if_neg (by omega)]
      have e2 : (if n ≠ m then (2 : Int) else if 4096 < n then 3 else 0) = 0 := by rw [if_neg (by omega), if_neg (by omega)]
      have e3 : (if n ≠ m ∨ 4096 < n then 0 else n) = n := by rw [if_neg (by omega)]
      repeat' (first|refine Gi0 fun _=>?_|refine Gi1 ?_|refine CW.drawsTreeA (id := 4) (.fork [0, 2, 3, 4] 1 5 (.leaf [6, 5, 7]) (.leaf [1, 6, 7])) mixed (by kernel_rfl) ?_|refine TRW.fork ?_|refine TRW.leaf ?_|refine TRW.both ?_ ?_|refine Gi2 (fun _=>?_) fun _=>?_|refine Gi3 ?_|refine Gi4 fun _=>?_|fail)
      refine OW.call (jJudge 1 sortC1 _ _ (List.replicate n zt) (List.replicate m zr) (0, 1) _ (ztLS hn5) (zrLS hm5) (by decide) (zcalls _)) ?_
      rintro u _ ⟨hu, rfl⟩
      obtain rfl := judged_z hu
      clear hu
      rw [e1]
      repeat' (first|refine Gi0 fun _=>?_|refine Gi1 ?_|refine CW.drawsTreeA (id := 4) (.fork [0, 2, 3, 4] 1 5 (.leaf [6, 5, 7]) (.leaf [1, 6, 7])) mixed (by kernel_rfl) ?_|refine TRW.fork ?_|refine TRW.leaf ?_|refine TRW.both ?_ ?_|refine Gi2 (fun _=>?_) fun _=>?_|refine Gi3 ?_|refine Gi4 fun _=>?_|fail)
      refine OW.call (jTime _ _ (List.replicate n zt) (List.replicate m zr) (0, 1) _ (ztLS hn5) (zrLS hm5) (by decide)) ?_
      rintro u _ ⟨hu, rfl⟩
      obtain rfl := timed_z hu
      clear hu
      rw [e1]
      repeat' (first|refine Gi0 fun _=>?_|refine Gi1 ?_|refine CW.drawsTreeA (id := 4) (.fork [0, 2, 3, 4] 1 5 (.leaf [6, 5, 7]) (.leaf [1, 6, 7])) mixed (by kernel_rfl) ?_|refine TRW.fork ?_|refine TRW.leaf ?_|refine TRW.both ?_ ?_|refine Gi2 (fun _=>?_) fun _=>?_|refine Gi3 ?_|refine Gi4 fun _=>?_|fail)
      refine OW.call (jWithout _ _ (List.replicate n zt) (List.replicate m zr) 0 _ (ztLS hn5) (zrLS hm5)) ?_
      rintro _ _ ⟨N, w, rfl, rfl, hrow⟩
      rw [histE_z, e2]
      rw [zats, e3] at hrow
      obtain ⟨wa, wc, rfl, _⟩ := hrow.rd.isSlice
      clear hrow
      repeat' (first|refine Gi0 fun _=>?_|refine Gi1 ?_|refine CW.drawsTreeA (id := 4) (.fork [0, 2, 3, 4] 1 5 (.leaf [6, 5, 7]) (.leaf [1, 6, 7])) mixed (by kernel_rfl) ?_|refine TRW.fork ?_|refine TRW.leaf ?_|refine TRW.both ?_ ?_|refine Gi2 (fun _=>?_) fun _=>?_|refine Gi3 ?_|refine Gi4 fun _=>?_|fail)
      refine OW.call (jHandles _ _ (List.replicate n zt) (List.replicate m zr) _ (ztLS hn5) (zrLS hm5)) ?_
      rintro _ _ ⟨N2, v2, bh, rfl, rfl, _⟩
      repeat' (first|refine Gi0 fun _=>?_|refine Gi1 ?_|refine CW.drawsTreeA (id := 4) (.fork [0, 2, 3, 4] 1 5 (.leaf [6, 5, 7]) (.leaf [1, 6, 7])) mixed (by kernel_rfl) ?_|refine TRW.fork ?_|refine TRW.leaf ?_|refine TRW.both ?_ ?_|refine Gi2 (fun _=>?_) fun _=>?_|refine Gi3 ?_|refine Gi4 fun _=>?_|fail)
      refine OW.call (jHandles _ _ (List.replicate n zt) (List.replicate m zr) _ (ztLS hn5) (zrLS hm5)) ?_
      rintro _ _ ⟨N3, v3, bh3, rfl, rfl, hw3⟩
      repeat' (first|refine Gi0 fun _=>?_|refine Gi1 ?_|refine CW.drawsTreeA (id := 4) (.fork [0, 2, 3, 4] 1 5 (.leaf [6, 5, 7]) (.leaf [1, 6, 7])) mixed (by kernel_rfl) ?_|refine TRW.fork ?_|refine TRW.leaf ?_|refine TRW.both ?_ ?_|refine Gi2 (fun _=>?_) fun _=>?_|refine Gi3 ?_|refine Gi4 fun _=>?_|fail)
      refine CW.rangeFunc (fun lp DD rec hrec => ?_)
      refine (jHandles1 (.func (.yield lp) #[] #[]) v3 bh3 (hist (List.replicate n zt) (List.replicate m zr)) _ inferInstance (LS.to hw3 (fun c a h => RwAt.to c a h)) zno w0).mono ?_ (fun _ _ h => h.elim)
      rintro u _ rfl
      refine rangeK.nrm ?_
      repeat' (first|refine Gi0 fun _=>?_|refine Gi1 ?_|refine CW.drawsTreeA (id := 4) (.fork [0, 2, 3, 4] 1 5 (.leaf [6, 5, 7]) (.leaf [1, 6, 7])) mixed (by kernel_rfl) ?_|refine TRW.fork ?_|refine TRW.leaf ?_|refine TRW.both ?_ ?_|refine Gi2 (fun _=>?_) fun _=>?_|refine Gi3 ?_|refine Gi4 fun _=>?_|fail)
      refine OW.call (num26 _ _) ?_
      rintro _ _ ⟨rfl, rfl⟩
      repeat' (first|refine Gi0 fun _=>?_|refine Gi1 ?_|refine CW.drawsTreeA (id := 4) (.fork [0, 2, 3, 4] 1 5 (.leaf [6, 5, 7]) (.leaf [1, 6, 7])) mixed (by kernel_rfl) ?_|refine TRW.fork ?_|refine TRW.leaf ?_|refine TRW.both ?_ ?_|refine Gi2 (fun _=>?_) fun _=>?_|refine Gi3 ?_|refine Gi4 fun _=>?_|fail)
      refine OW.call (num26 _ _) ?_
      rintro _ _ ⟨rfl, rfl⟩
      repeat' (first|refine Gi0 fun _=>?_|refine Gi1 ?_|refine CW.drawsTreeA (id := 4) (.fork [0, 2, 3, 4] 1 5 (.leaf [6, 5, 7]) (.leaf [1, 6, 7])) mixed (by kernel_rfl) ?_|refine TRW.fork ?_|refine TRW.leaf ?_|refine TRW.both ?_ ?_|refine Gi2 (fun _=>?_) fun _=>?_|refine Gi3 ?_|refine Gi4 fun _=>?_|fail)
      refine OW.call (num26 _ _) ?_
      rintro _ _ ⟨rfl, rfl⟩
      repeat' (first|refine Gi0 fun _=>?_|refine Gi1 ?_|refine CW.drawsTreeA (id := 4) (.fork [0, 2, 3, 4] 1 5 (.leaf [6, 5, 7]) (.leaf [1, 6, 7])) mixed (by kernel_rfl) ?_|refine TRW.fork ?_|refine TRW.leaf ?_|refine TRW.both ?_ ?_|refine Gi2 (fun _=>?_) fun _=>?_|refine Gi3 ?_|refine Gi4 fun _=>?_|fail)
      refine OW.call (works26 _) ?_
      rintro _ _ ⟨rfl, rfl⟩
      repeat' (first|refine Gi0 fun _=>?_|refine Gi1 ?_|refine CW.drawsTreeA (id := 4) (.fork [0, 2, 3, 4] 1 5 (.leaf [6, 5, 7]) (.leaf [1, 6, 7])) mixed (by kernel_rfl) ?_|refine TRW.fork ?_|refine TRW.leaf ?_|refine TRW.both ?_ ?_|refine Gi2 (fun _=>?_) fun _=>?_|refine Gi3 ?_|refine Gi4 fun _=>?_|fail)
      exact bodyM.retM L (Res.of1 Tryz.results3) ⟨rfl, rfl⟩
end Go.Proofs.YtmnhooepaemlcaaGreat
