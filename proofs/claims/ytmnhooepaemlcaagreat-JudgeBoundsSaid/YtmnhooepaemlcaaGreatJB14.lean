/-
  For every input the law JudgeBounds returns true, and each argument reads behind the call as it read before. This text holds lemmas for it (part 14).
  Conditions: none.
-/
import Derived.Test.YtmnhooepaemlcaaGreatJB2
import Derived.Test.YtmnhooepaemlcaaGreatJB13
set_option linter.all false
namespace Go.Proofs.YtmnhooepaemlcaaGreat
open Go Go.Pw Go.Pw.Sc Go.Pw.Md Go.Pw.Jd
set_option maxRecDepth 100000
set_option maxHeartbeats 4000000
set_option synthInstance.maxHeartbeats 400000
set_option synthInstance.maxSize 2000
attribute [local irreducible] CW OW RW thenK blockK
attribute [local irreducible] scopeK loopK TRW ATW


def keepsW (slot : Int) (w : Row) : Bool := decide ((w.t.kind ≠ 5 ∧ w.t.kind ≠ 6) ∨ w.b w.t.thread = none ∨ ((w.b w.t.thread).getD (0, 0)).1 = slot)
def ats (slot : Int) (ws : List Row) : List Value := (ws.filter (keepsW slot)).map fun w => .int .i64 (w.at_ : Int)
theorem ats_step {slot : Int} {ws : List Row} {i : Nat} (h : i < ws.length) : ats slot (ws.take (i + 1)) = ats slot (ws.take i) ++ (if keepsW slot ws[i] then [.int .i64 (ws[i].at_ : Int)] else []) := by
  unfold ats
  rw [take_step2 h, List.filter_append, List.map_append]
  congr 1
  cases hk : keepsW slot ws[i] <;> simp [hk]
theorem ats_le (slot : Int) (ws : List Row) (i : Nat) : (ats slot (ws.take i)).length ≤ i := by
  unfold ats
  rw [List.length_map]
  exact Nat.le_trans (List.length_filter_le ..) (by rw [List.length_take]; omega)
theorem jWithout (vl vr : Value) (ts : List Turn) (rs : List Rp) (slot : Int) (L : Chunk) (hl : LS 13 TnAt L vl ts) (hr : LS 11 RpAt L vr rs) : Fn1 Tryz.prog 12 [vl, vr, .int .i64 slot] L
    (fun u L' => ∃ N v, u = .tuple #[v, .int .i64 (histE ts rs)] ∧ L' = N ++ L ∧ Row 3 1 N v (ats slot (hist ts rs)).length (ats slot (hist ts rs))) := by
  have sl := hl.sng
  have sr := hr.sng
  intro w0; refine Spec.enter3 Tryz.func12 rfl Tryz.ntmps12 (by decide) ?_
  repeat' (first|refine Ga0 fun _=>?_|refine Ga1 ?_|refine Ga2 (fun _=>?_) fun _=>?_|refine Ga3 ?_|refine Ga4 fun _=>?_|fail)
  refine OW.call (jReadH vl vr ts rs _ hl hr) ?_
  rintro _ _ ⟨N1, v, rfl, rfl, hv, hwl⟩
  generalize histE ts rs = er at *
  generalize hist ts rs = ws at *
  have hn := hv.len
  obtain ⟨av, cv, rfl⟩ := hv.slice
  repeat' (first|refine Ga0 fun _=>?_|refine Ga1 ?_|refine Ga2 (fun _=>?_) fun _=>?_|refine Ga3 ?_|refine Ga4 fun _=>?_|fail)
  refine CW.count ws.length (fun i ρ ds Lx => ∃ (X N : Chunk) (w : Value), ds = [] ∧ Lx = X ++ (N ++ (N1 ++ L)) ∧ Row 3 1 N w (ats slot (ws.take i)).length (ats slot (ws.take i)) ∧ Ev ρ 2 (.int .i64 slot) ∧ Ev ρ 6 w ∧ Ev ρ 7 (.int .i64 er) ∧ Ev ρ 19 (.slice av ws.length cv) ∧ Ev ρ 20 (.int .i64 (ws.length : Int)) ∧ Ev ρ 21 (.int .i64 (i : Int)))
    ⟨[], [], .slice none 0 0, rfl, rfl, Row.nil _ _, inferInstance, inferInstance, inferInstance, inferInstance, inferInstance, inferInstance⟩ ?_
  rintro i ρ ds Lx hi ⟨X, N, w, rfl, rfl, hrow, e2, e6, e7, e19, e20, e21⟩
  have sw := hrow.sng
  by_cases hlt : i < ws.length
  · obtain ⟨bk, kk, capk, lk, ek, frk, hbe, hbin, hbc, hbn⟩ := hv.open (by omega)
    cases hbe
    obtain ⟨cc, hcut, vb, vd, vo, bp, rfl, hvb, hvd, hvo, htr, hrr, es, c, hmp, hkv, hhb⟩ := hbn i hlt
    have q1 := hvb.sng
    have q2 := hvd.sng
    have q3 := hvo.sng
    have hlti : (i : Int) < ws.length := by omega
    have hstep := ats_step (slot := slot) hlt
    have hale := ats_le slot ws i
    clear hbn
    generalize hwi : ws[i] = wi at *
    clear hwi
    have hfb := hhb wi.t.thread
    repeat' (first|refine Ga0 fun _=>?_|refine Ga1 ?_|refine Ga2 (fun _=>?_) fun _=>?_|refine Ga3 ?_|refine Ga4 fun _=>?_|fail)
    refine OW.lookOk (es := es) (c := c) (m := bp) hkv.keys (fun y hy => ?_) (fun hy => ?_)
    · rw [hy] at hfb
      cases hb : wi.b wi.t.thread with
      | none => rw [hb] at hfb; cases hfb
      | some x =>
        rw [hb] at hfb
        obtain rfl : y = hdV x := Option.some.inj hfb
        by_cases k5 : wi.t.kind = 5
        · by_cases hs : x.1 = slot
          · have hk : keepsW slot wi = true := decide_eq_true (.inr (.inr (by rw [hb]; exact hs)))
            rw [hk] at hstep
            repeat' (first|refine Ga0 fun _=>?_|refine Ga1 ?_|refine Ga2 (fun _=>?_) fun _=>?_|refine Ga3 ?_|refine Ga4 fun _=>?_|fail)
            refine OW.append hrow inferInstance (Rd.blk (n := 1) (l := [.int .i64 (wi.at_ : Int)]) rfl (Nat.le_refl _)) (fun z hz => by rw [List.mem_singleton.1 hz]; infer_instance) (by omega) (fun w' N' hrow' => ?_)
            have sw' := hrow'.sng
            repeat' (first|refine Ga0 fun _=>?_|refine Ga1 ?_|refine Ga2 (fun _=>?_) fun _=>?_|refine Ga3 ?_|refine Ga4 fun _=>?_|fail)
            exact ⟨hlt, _ :: _ :: _ :: X, N', w', rfl, rfl, by rw [hstep, if_pos rfl, List.length_append]; exact hrow', inferInstance, inferInstance, inferInstance, inferInstance, inferInstance, by rw [Int.natCast_add]; infer_instance⟩
          · have hk : keepsW slot wi = false := decide_eq_false fun h => by
              rw [hb] at h
              rcases h with h | h | h
              · exact h.1 k5
              · cases h
              · exact hs h
            rw [hk] at hstep
            repeat' (first|refine Ga0 fun _=>?_|refine Ga1 ?_|refine Ga2 (fun _=>?_) fun _=>?_|refine Ga3 ?_|refine Ga4 fun _=>?_|fail)
            exact ⟨hlt, _ :: _ :: X, N, w, rfl, rfl, by rw [hstep, if_neg (by decide), List.append_nil]; exact hrow, inferInstance, inferInstance, inferInstance, inferInstance, inferInstance, by rw [Int.natCast_add]; infer_instance⟩
        · by_cases k6 : wi.t.kind = 6
          · by_cases hs : x.1 = slot
            · have hk : keepsW slot wi = true := decide_eq_true (.inr (.inr (by rw [hb]; exact hs)))
              rw [hk] at hstep
              repeat' (first|refine Ga0 fun _=>?_|refine Ga1 ?_|refine Ga2 (fun _=>?_) fun _=>?_|refine Ga3 ?_|refine Ga4 fun _=>?_|fail)
              refine OW.append hrow inferInstance (Rd.blk (n := 1) (l := [.int .i64 (wi.at_ : Int)]) rfl (Nat.le_refl _)) (fun z hz => by rw [List.mem_singleton.1 hz]; infer_instance) (by omega) (fun w' N' hrow' => ?_)
              have sw' := hrow'.sng
              repeat' (first|refine Ga0 fun _=>?_|refine Ga1 ?_|refine Ga2 (fun _=>?_) fun _=>?_|refine Ga3 ?_|refine Ga4 fun _=>?_|fail)
              exact ⟨hlt, _ :: _ :: _ :: X, N', w', rfl, rfl, by rw [hstep, if_pos rfl, List.length_append]; exact hrow', inferInstance, inferInstance, inferInstance, inferInstance, inferInstance, by rw [Int.natCast_add]; infer_instance⟩
            · have hk : keepsW slot wi = false := decide_eq_false fun h => by
                rw [hb] at h
                rcases h with h | h | h
                · exact h.2 k6
                · cases h
                · exact hs h
              rw [hk] at hstep
              repeat' (first|refine Ga0 fun _=>?_|refine Ga1 ?_|refine Ga2 (fun _=>?_) fun _=>?_|refine Ga3 ?_|refine Ga4 fun _=>?_|fail)
              exact ⟨hlt, _ :: _ :: X, N, w, rfl, rfl, by rw [hstep, if_neg (by decide), List.append_nil]; exact hrow, inferInstance, inferInstance, inferInstance, inferInstance, inferInstance, by rw [Int.natCast_add]; infer_instance⟩
          · have hk : keepsW slot wi = true := decide_eq_true (.inl ⟨k5, k6⟩)
            rw [hk] at hstep
            repeat' (first|refine Ga0 fun _=>?_|refine Ga1 ?_|refine Ga2 (fun _=>?_) fun _=>?_|refine Ga3 ?_|refine Ga4 fun _=>?_|fail)
            refine OW.append hrow inferInstance (Rd.blk (n := 1) (l := [.int .i64 (wi.at_ : Int)]) rfl (Nat.le_refl _)) (fun z hz => by rw [List.mem_singleton.1 hz]; infer_instance) (by omega) (fun w' N' hrow' => ?_)
            have sw' := hrow'.sng
            repeat' (first|refine Ga0 fun _=>?_|refine Ga1 ?_|refine Ga2 (fun _=>?_) fun _=>?_|refine Ga3 ?_|refine Ga4 fun _=>?_|fail)
            exact ⟨hlt, _ :: _ :: _ :: X, N', w', rfl, rfl, by rw [hstep, if_pos rfl, List.length_append]; exact hrow', inferInstance, inferInstance, inferInstance, inferInstance, inferInstance, by rw [Int.natCast_add]; infer_instance⟩
    · rw [hy] at hfb
      cases hb : wi.b wi.t.thread with
      | some x => rw [hb] at hfb; cases hfb
      | none =>
        by_cases k5 : wi.t.kind = 5
        · have hk : keepsW slot wi = true := decide_eq_true (.inr (.inl hb))
          rw [hk] at hstep
          repeat' (first|refine Ga0 fun _=>?_|refine Ga1 ?_|refine Ga2 (fun _=>?_) fun _=>?_|refine Ga3 ?_|refine Ga4 fun _=>?_|fail)
          refine OW.append hrow inferInstance (Rd.blk (n := 1) (l := [.int .i64 (wi.at_ : Int)]) rfl (Nat.le_refl _)) (fun z hz => by rw [List.mem_singleton.1 hz]; infer_instance) (by omega) (fun w' N' hrow' => ?_)
          have sw' := hrow'.sng
          repeat' (first|refine Ga0 fun _=>?_|refine Ga1 ?_|refine Ga2 (fun _=>?_) fun _=>?_|refine Ga3 ?_|refine Ga4 fun _=>?_|fail)
          exact ⟨hlt, _ :: _ :: _ :: X, N', w', rfl, rfl, by rw [hstep, if_pos rfl, List.length_append]; exact hrow', inferInstance, inferInstance, inferInstance, inferInstance, inferInstance, by rw [Int.natCast_add]; infer_instance⟩
        · by_cases k6 : wi.t.kind = 6
          · have hk : keepsW slot wi = true := decide_eq_true (.inr (.inl hb))
            rw [hk] at hstep
            repeat' (first|refine Ga0 fun _=>?_|refine Ga1 ?_|refine Ga2 (fun _=>?_) fun _=>?_|refine Ga3 ?_|refine Ga4 fun _=>?_|fail)
            refine OW.append hrow inferInstance (Rd.blk (n := 1) (l := [.int .i64 (wi.at_ : Int)]) rfl (Nat.le_refl _)) (fun z hz => by rw [List.mem_singleton.1 hz]; infer_instance) (by omega) (fun w' N' hrow' => ?_)
            have sw' := hrow'.sng
            repeat' (first|refine Ga0 fun _=>?_|refine Ga1 ?_|refine Ga2 (fun _=>?_) fun _=>?_|refine Ga3 ?_|refine Ga4 fun _=>?_|fail)
            exact ⟨hlt, _ :: _ :: _ :: X, N', w', rfl, rfl, by rw [hstep, if_pos rfl, List.length_append]; exact hrow', inferInstance, inferInstance, inferInstance, inferInstance, inferInstance, by rw [Int.natCast_add]; infer_instance⟩
          · have hk : keepsW slot wi = true := decide_eq_true (.inl ⟨k5, k6⟩)
            rw [hk] at hstep
            repeat' (first|refine Ga0 fun _=>?_|refine Ga1 ?_|refine Ga2 (fun _=>?_) fun _=>?_|refine Ga3 ?_|refine Ga4 fun _=>?_|fail)
            refine OW.append hrow inferInstance (Rd.blk (n := 1) (l := [.int .i64 (wi.at_ : Int)]) rfl (Nat.le_refl _)) (fun z hz => by rw [List.mem_singleton.1 hz]; infer_instance) (by omega) (fun w' N' hrow' => ?_)
            have sw' := hrow'.sng
            repeat' (first|refine Ga0 fun _=>?_|refine Ga1 ?_|refine Ga2 (fun _=>?_) fun _=>?_|refine Ga3 ?_|refine Ga4 fun _=>?_|fail)
            exact ⟨hlt, _ :: _ :: _ :: X, N', w', rfl, rfl, by rw [hstep, if_pos rfl, List.length_append]; exact hrow', inferInstance, inferInstance, inferInstance, inferInstance, inferInstance, by rw [Int.natCast_add]; infer_instance⟩
  · obtain rfl : i = ws.length := by omega
    rw [List.take_length] at hrow
    repeat' (first|refine Ga0 fun _=>?_|refine Ga1 ?_|refine Ga2 (fun _=>?_) fun _=>?_|refine Ga3 ?_|refine Ga4 fun _=>?_|fail)
    exact bodyK.retD (N ++ L) (hs := ⟨List.Sublist.trans (List.Sublist.append_left (List.sublist_append_right N1 L) N) (List.sublist_append_right X _)⟩) (Res.two Tryz.results12) ⟨N, w, rfl, rfl, hrow⟩
end Go.Proofs.YtmnhooepaemlcaaGreat
