/-
  For every input the law JudgeBounds returns true, and each argument reads behind the call as it read before. This text holds lemmas for it (part 15).
  Conditions: none.
-/
import Derived.Test.YtmnhooepaemlcaaGreatJB2
import Derived.Test.YtmnhooepaemlcaaGreatJB14
set_option linter.all false
namespace Go.Proofs.YtmnhooepaemlcaaGreat
open Go Go.Pw Go.Pw.Sc Go.Pw.Md Go.Pw.Jd
set_option maxRecDepth 100000
set_option maxHeartbeats 4000000
set_option synthInstance.maxHeartbeats 400000
set_option synthInstance.maxSize 2000
attribute [local irreducible] CW OW RW thenK blockK
attribute [local irreducible] scopeK loopK TRW ATW


@[reducible] def jt1 : Turn := ⟨1, 1, 100, 0, 0, 0, 0, 0, 0, 0, 0, [], []⟩
@[reducible] def jt2 : Turn := ⟨3, 0, 0, 0, 1, 1, 0, 0, 0, 0, 0, [], []⟩
@[reducible] def jt3 : Turn := ⟨5, 0, 0, 0, 1, 1, 5, 5, 0, 0, 0, [], []⟩
@[reducible] def jt4 : Turn := ⟨6, 0, 0, 0, 0, 0, 0, 0, 0, 0, 0, [], []⟩
@[reducible] def jr1 : Rp := ⟨0, 1, 1, 0, 0, 0, false, 0, 0, 0, []⟩
@[reducible] def jr2 : Rp := ⟨0, 0, 0, 0, 0, 0, false, 0, 0, 0, []⟩
@[reducible] def jr3 : Rp := ⟨0, 0, 0, 0, 2, 0, false, 0, 0, 0, []⟩
@[reducible] def jr4 : Rp := ⟨0, 0, 0, 0, 3, 0, false, 0, 0, 0, []⟩
@[reducible] def jr5 : Rp := ⟨0, 0, 0, 0, 4, 0, true, 0, 0, 16, []⟩
@[reducible] def jr6 : Rp := ⟨0, 0, 0, 0, 4, 0, true, 320, 0, 0, []⟩
@[reducible] def jts : List Turn := [jt1, jt2, jt3, jt4, jt4, jt4]
@[reducible] def jrs : List Rp := [jr1, jr2, jr2, jr3, jr4, jr5]
@[reducible] def jrs2 : List Rp := [jr1, jr2, jr2, jr3, jr4, jr6]
@[reducible] def jtC : List Value := [.int .i64 1, .int .i64 1, .int .i64 100, .int .i64 0, .int .i64 0, .int .i64 0, .int .i64 0, .int .u32 0, .int .u64 0, .int .u64 0, .int .u64 0, .slice none 0 0, .slice none 0 0, .int .i64 3, .int .i64 0, .int .i64 0, .int .i64 0, .int .i64 1, .int .i64 1, .int .i64 0, .int .u32 0, .int .u64 0, .int .u64 0, .int .u64 0, .slice none 0 0, .slice none 0 0, .int .i64 5, .int .i64 0, .int .i64 0, .int .i64 0, .int .i64 1, .int .i64 1, .int .i64 5, .int .u32 5, .int .u64 0, .int .u64 0, .int .u64 0, .slice none 0 0, .slice none 0 0, .int .i64 6, .int .i64 0, .int .i64 0, .int .i64 0, .int .i64 0, .int .i64 0, .int .i64 0, .int .u32 0, .int .u64 0, .int .u64 0, .int .u64 0, .slice none 0 0, .slice none 0 0, .int .i64 6, .int .i64 0, .int .i64 0, .int .i64 0, .int .i64 0, .int .i64 0, .int .i64 0, .int .u32 0, .int .u64 0, .int .u64 0, .int .u64 0, .slice none 0 0, .slice none 0 0, .int .i64 6, .int .i64 0, .int .i64 0, .int .i64 0, .int .i64 0, .int .i64 0, .int .i64 0, .int .u32 0, .int .u64 0, .int .u64 0, .int .u64 0, .slice none 0 0, .slice none 0 0]
@[reducible] def jrC : List Value := [.int .i64 0, .int .i64 1, .int .i64 1, .int .i64 0, .int .i64 0, .int .i64 0, .bool false, .int .i64 0, .int .u32 0, .int .i64 0, .slice none 0 0, .int .i64 0, .int .i64 0, .int .i64 0, .int .i64 0, .int .i64 0, .int .i64 0, .bool false, .int .i64 0, .int .u32 0, .int .i64 0, .slice none 0 0, .int .i64 0, .int .i64 0, .int .i64 0, .int .i64 0, .int .i64 0, .int .i64 0, .bool false, .int .i64 0, .int .u32 0, .int .i64 0, .slice none 0 0, .int .i64 0, .int .i64 0, .int .i64 0, .int .i64 0, .int .i64 2, .int .i64 0, .bool false, .int .i64 0, .int .u32 0, .int .i64 0, .slice none 0 0, .int .i64 0, .int .i64 0, .int .i64 0, .int .i64 0, .int .i64 3, .int .i64 0, .bool false, .int .i64 0, .int .u32 0, .int .i64 0, .slice none 0 0, .int .i64 0, .int .i64 0, .int .i64 0, .int .i64 0, .int .i64 4, .int .i64 0, .bool true, .int .i64 0, .int .u32 0, .int .i64 16, .slice none 0 0]
@[reducible] def jrC2 : List Value := [.int .i64 0, .int .i64 1, .int .i64 1, .int .i64 0, .int .i64 0, .int .i64 0, .bool false, .int .i64 0, .int .u32 0, .int .i64 0, .slice none 0 0, .int .i64 0, .int .i64 0, .int .i64 0, .int .i64 0, .int .i64 0, .int .i64 0, .bool false, .int .i64 0, .int .u32 0, .int .i64 0, .slice none 0 0, .int .i64 0, .int .i64 0, .int .i64 0, .int .i64 0, .int .i64 0, .int .i64 0, .bool false, .int .i64 0, .int .u32 0, .int .i64 0, .slice none 0 0, .int .i64 0, .int .i64 0, .int .i64 0, .int .i64 0, .int .i64 2, .int .i64 0, .bool false, .int .i64 0, .int .u32 0, .int .i64 0, .slice none 0 0, .int .i64 0, .int .i64 0, .int .i64 0, .int .i64 0, .int .i64 3, .int .i64 0, .bool false, .int .i64 0, .int .u32 0, .int .i64 0, .slice none 0 0, .int .i64 0, .int .i64 0, .int .i64 0, .int .i64 0, .int .i64 4, .int .i64 0, .bool true, .int .i64 320, .int .u32 0, .int .i64 0, .slice none 0 0]

theorem num26 (e : Int) (L : Chunk) : Fn1 Tryz.prog 14 [.int .i64 e] L (fun u L' => u = .int .i64 e ∧ L = L') := by
  intro w0; refine Spec.enter1 Tryz.func14 rfl Tryz.ntmps14 (by decide) ?_
  repeat' (first|refine Ga0 fun _=>?_|refine Ga1 ?_|refine Ga2 (fun _=>?_) fun _=>?_|refine Ga3 ?_|refine Ga4 fun _=>?_|fail)
  exact bodyK.retD L (Res.one Tryz.results14) ⟨rfl, rfl⟩
instance eqVerdict {a b c d : Int} : EqA Tryz.prog 27 [.int .i64 a, .int .i64 b] [.int .i64 c, .int .i64 d] (decide (a = c ∧ b = d)) :=
  ⟨by kernel_rfl, fun w => eq_two Tryz.underlying27 ⟨rfl, rfl, by decide⟩ ⟨rfl, rfl, by decide⟩ (by kernel_rfl) w a b c d⟩
theorem tnAt0 {L : Chunk} (t : Turn) (h1 : t.obytes = []) (h2 : t.draws = []) (h : TR t) : LAt 13 (TnAt L) (tcells t (.slice none 0 0) (.slice none 0 0)) [t] :=
  LAt.one rfl ⟨_, _, rfl, by rw [h1]; exact BS.nil _, by rw [h2]; exact BS.nil _, h⟩
theorem rpAt0 {L : Chunk} (r : Rp) (h1 : r.obytes = []) (h : RR r) : LAt 11 (RpAt L) (rcells r (.slice none 0 0)) [r] :=
  LAt.one rfl ⟨_, rfl, by rw [h1]; exact BS.nil _, h⟩
theorem jtLS {L : Chunk} {b : Nat} {e : TypeId} {fr : Nat × Nat} [h : InC L b (.cells jtC.toArray e fr)] : LS 13 TnAt L (.slice (some ⟨b, 0, none⟩) 6 6) jts :=
  ⟨⟨jtC, Rd.blk (n := 6) (l := jtC) rfl (Nat.le_refl _),
    (tnAt0 jt1 rfl rfl ⟨by decide, by decide, by decide, by decide, by decide, by decide, by decide, by decide, by decide, by decide, by decide⟩).append
    ((tnAt0 jt2 rfl rfl ⟨by decide, by decide, by decide, by decide, by decide, by decide, by decide, by decide, by decide, by decide, by decide⟩).append
    ((tnAt0 jt3 rfl rfl ⟨by decide, by decide, by decide, by decide, by decide, by decide, by decide, by decide, by decide, by decide, by decide⟩).append
    ((tnAt0 jt4 rfl rfl ⟨by decide, by decide, by decide, by decide, by decide, by decide, by decide, by decide, by decide, by decide, by decide⟩).append
    ((tnAt0 jt4 rfl rfl ⟨by decide, by decide, by decide, by decide, by decide, by decide, by decide, by decide, by decide, by decide, by decide⟩).append
    (tnAt0 jt4 rfl rfl ⟨by decide, by decide, by decide, by decide, by decide, by decide, by decide, by decide, by decide, by decide, by decide⟩)))))⟩, by decide⟩
theorem jrR1 : RR jr1 := ⟨by decide, by decide, by decide, by decide, by decide, by decide, by decide, by decide, by decide⟩
theorem jrR2 : RR jr2 := ⟨by decide, by decide, by decide, by decide, by decide, by decide, by decide, by decide, by decide⟩
theorem jrR3 : RR jr3 := ⟨by decide, by decide, by decide, by decide, by decide, by decide, by decide, by decide, by decide⟩
theorem jrR4 : RR jr4 := ⟨by decide, by decide, by decide, by decide, by decide, by decide, by decide, by decide, by decide⟩
theorem jrR5 : RR jr5 := ⟨by decide, by decide, by decide, by decide, by decide, by decide, by decide, by decide, by decide⟩
theorem jrR6 : RR jr6 := ⟨by decide, by decide, by decide, by decide, by decide, by decide, by decide, by decide, by decide⟩
theorem jrAt {L : Chunk} (r : Rp) (h1 : r.obytes = []) (h : RR r) : LAt 11 (RpAt L) (rcells jr1 (.slice none 0 0) ++ (rcells jr2 (.slice none 0 0) ++ (rcells jr2 (.slice none 0 0) ++ (rcells jr3 (.slice none 0 0) ++ (rcells jr4 (.slice none 0 0) ++ rcells r (.slice none 0 0)))))) [jr1, jr2, jr2, jr3, jr4, r] :=
  (rpAt0 jr1 rfl jrR1).append ((rpAt0 jr2 rfl jrR2).append ((rpAt0 jr2 rfl jrR2).append ((rpAt0 jr3 rfl jrR3).append ((rpAt0 jr4 rfl jrR4).append (rpAt0 r h1 h)))))
theorem jrLS {L : Chunk} {b : Nat} {e : TypeId} {fr : Nat × Nat} [h : InC L b (.cells jrC.toArray e fr)] : LS 11 RpAt L (.slice (some ⟨b, 0, none⟩) 6 6) jrs :=
  ⟨⟨jrC, Rd.blk (n := 6) (l := jrC) rfl (Nat.le_refl _), jrAt jr5 rfl jrR5⟩, by decide⟩
theorem jrLS2 {L : Chunk} {b : Nat} {e : TypeId} {fr : Nat × Nat} [h : InC L b (.cells jrC2.toArray e fr)] : LS 11 RpAt L (.slice (some ⟨b, 0, none⟩) 6 6) jrs2 :=
  ⟨⟨jrC2, Rd.blk (n := 6) (l := jrC2) rfl (Nat.le_refl _), jrAt jr6 rfl jrR6⟩, by decide⟩
theorem judged_one {ts : List Turn} {rs : List Rp} {x : Hd} {u : Value} {q : Int} {v : Int × Int} (h : Judged ts rs x u) (h1 : ts.length = rs.length) (h2 : ts.length ≤ 4096) (h3 : quotaOf (rows (ts.zip rs)) x = (q, true))
    (h4 : ((callsOf x (rows (ts.zip rs)) 0).filter fun c => !noWork c).length ≤ 1) (h5 : verdict ⟨x.1, q, []⟩ ((callsOf x (rows (ts.zip rs)) 0).filter fun c => !noWork c) = v) : u = .tuple #[.agg #[.int .i64 v.1, .int .i64 v.2], .int .i64 0] := by
  unfold Judged at h
  rw [if_neg (not_not_intro h1), if_neg (by omega), if_neg (by rw [h3]; exact Bool.noConfusion)] at h
  obtain ⟨cs, hp, rfl⟩ := h
  generalize (callsOf x (rows (ts.zip rs)) 0).filter (fun c => !noWork c) = ds at *
  have : cs = ds := by
    match ds, h4 with
    | [], _ => exact List.perm_nil.1 hp
    | [a], _ => exact List.perm_singleton.1 hp
  rw [this, h3, h5]
theorem jq1 : quotaOf (rows (jts.zip jrs)) (1, 1) = (100, true) := by decide +kernel
theorem jq2 : quotaOf (rows (jts.zip jrs2)) (1, 1) = (100, true) := by decide +kernel
theorem jq3 : (quotaOf (rows (jts.zip jrs2)) (1, 2)).2 = false := by decide +kernel
theorem jn1 : ((callsOf (1, 1) (rows (jts.zip jrs)) 0).filter fun c => !noWork c).length ≤ 1 := by decide +kernel
theorem jn2 : ((callsOf (1, 1) (rows (jts.zip jrs2)) 0).filter fun c => !noWork c).length ≤ 1 := by decide +kernel
theorem jn3 : ((callsOf (1, 2) (rows (jts.zip jrs2)) 0).filter fun c => !noWork c).length ≤ 1 := by decide +kernel
theorem jn4 : ((callsOf (1, 1) (rows (jts.zip (jrs2.take 5))) 0).filter fun c => !noWork c).length ≤ 1 := by decide +kernel
theorem jv1 : verdict ⟨1, 100, []⟩ ((callsOf (1, 1) (rows (jts.zip jrs)) 0).filter fun c => !noWork c) = (1, 4) := by decide +kernel
theorem jv2 : verdict ⟨1, 100, []⟩ ((callsOf (1, 1) (rows (jts.zip jrs2)) 0).filter fun c => !noWork c) = (0, 0) := by decide +kernel
theorem jl1 : ((callsOf (1, 1) (rows (jts.zip jrs2)) 0).any fun c => decide (lateC c)) = false := by decide +kernel
theorem jrLS5 {L : Chunk} {b : Nat} {e : TypeId} {fr : Nat × Nat} [h : InC L b (.cells jrC2.toArray e fr)] : LS 11 RpAt L (.slice (some ⟨b, 0, none⟩) 5 6) (jrs2.take 5) :=
  ⟨⟨jrC2.take 55, ⟨rfl, .inr ⟨b, 0, 6, _, e, fr, rfl, h.out, by decide, rfl, by decide⟩⟩,
    (rpAt0 jr1 rfl jrR1).append ((rpAt0 jr2 rfl jrR2).append ((rpAt0 jr2 rfl jrR2).append ((rpAt0 jr3 rfl jrR3).append (rpAt0 jr4 rfl jrR4))))⟩, by decide⟩
theorem judged_w1 {u : Value} (h : Judged jts jrs (1, 1) u) : u = .tuple #[.agg #[.int .i64 1, .int .i64 4], .int .i64 0] := judged_one h rfl (by decide) jq1 jn1 jv1
theorem judged_w2 {u : Value} (h : Judged jts jrs2 (1, 1) u) : u = .tuple #[.agg #[.int .i64 0, .int .i64 0], .int .i64 0] := judged_one h rfl (by decide) jq2 jn2 jv2
theorem judged_w3 {u : Value} (h : Judged jts jrs2 (1, 2) u) : u = .tuple #[.agg #[.int .i64 0, .int .i64 0], .int .i64 311] := by
  unfold Judged at h
  rwa [if_neg (show ¬ jts.length ≠ jrs2.length from not_not_intro rfl), if_neg (by decide), if_pos jq3] at h
theorem judged_w4 {u : Value} (h : Judged jts (jrs2.take 5) (1, 1) u) : u = .tuple #[.agg #[.int .i64 0, .int .i64 0], .int .i64 2] := by
  unfold Judged at h
  rwa [if_pos (by decide)] at h
theorem timed_w {u : Value} (h : Timed jts jrs2 (1, 1) u) : u = .tuple #[.bool true, .int .i64 0] := by
  unfold Timed at h
  rwa [if_neg (show ¬ jts.length ≠ jrs2.length from not_not_intro rfl), if_neg (by decide), if_neg (by rw [jq2]; exact Bool.noConfusion), jl1] at h
theorem jrRd {b : Nat} : Rd [(b, .cells jrC2.toArray (0 : TypeId) (0, 0))] 11 (.slice (some ⟨b, 0, none⟩) 6 6) 6 jrC2 := Rd.blk (n := 6) (l := jrC2) rfl (Nat.le_refl _)
theorem sl5 {b : Nat} : slV (.slice (some ⟨b, 0, none⟩) 6 6) 0 5 11 = .slice (some ⟨b, 0, none⟩) 5 6 := rfl
theorem ev14 : EqA Tryz.prog 27 [.int .i64 1, .int .i64 4] [.int .i64 1, .int .i64 4] true := eqVerdict
theorem ev00 : EqA Tryz.prog 27 [.int .i64 0, .int .i64 0] [.int .i64 0, .int .i64 0] true := eqVerdict
theorem works26 (L : Chunk) : Fn1 Tryz.prog 9 [] L (fun u L' => u = .bool true ∧ L = L') := by
  intro w0; refine Spec.enter0 Tryz.func9 rfl Tryz.ntmps9 ?_
  repeat' (first|refine Gi0 fun _=>?_|refine Gi1 ?_|refine CW.drawsTreeA (id := 10) (.fork [0, 1, 2, 3] 4 8 (.leaf [5, 6, 7, 8, 9, 10]) (.leaf [4, 5, 6, 7, 9, 10])) mixed (by kernel_rfl) ?_|refine TRW.fork ?_|refine TRW.leaf ?_|refine TRW.both ?_ ?_|refine Gi2 (fun _=>?_) fun _=>?_|refine Gi3 ?_|refine Gi4 fun _=>?_|fail)
  refine OW.call (jJudge 1 sortC1 _ _ jts jrs (1, 1) _ jtLS jrLS (by decide) jn1) ?_
  rintro u _ ⟨hu, rfl⟩
  obtain rfl := judged_w1 hu
  clear hu
  repeat' (first|refine Gi0 fun _=>?_|refine Gi1 ?_|refine CW.drawsTreeA (id := 10) (.fork [0, 1, 2, 3] 4 8 (.leaf [5, 6, 7, 8, 9, 10]) (.leaf [4, 5, 6, 7, 9, 10])) mixed (by kernel_rfl) ?_|refine TRW.fork ?_|refine TRW.leaf ?_|refine TRW.both ?_ ?_|refine Gi2 (fun _=>?_) fun _=>?_|refine Gi3 ?_|refine Gi4 fun _=>?_|fail)
  rw [show natOf 5 * 11 + 4 + 3 = 62 from rfl]
  repeat' (first|refine Gi0 fun _=>?_|refine Gi1 ?_|refine CW.drawsTreeA (id := 10) (.fork [0, 1, 2, 3] 4 8 (.leaf [5, 6, 7, 8, 9, 10]) (.leaf [4, 5, 6, 7, 9, 10])) mixed (by kernel_rfl) ?_|refine TRW.fork ?_|refine TRW.leaf ?_|refine TRW.both ?_ ?_|refine Gi2 (fun _=>?_) fun _=>?_|refine Gi3 ?_|refine Gi4 fun _=>?_|fail)
  refine OW.call (jJudge 1 sortC1 _ _ jts jrs2 (1, 1) _ jtLS jrLS2 (by decide) jn2) ?_
  rintro u _ ⟨hu, rfl⟩
  obtain rfl := judged_w2 hu
  clear hu
  repeat' (first|refine Gi0 fun _=>?_|refine Gi1 ?_|refine CW.drawsTreeA (id := 10) (.fork [0, 1, 2, 3] 4 8 (.leaf [5, 6, 7, 8, 9, 10]) (.leaf [4, 5, 6, 7, 9, 10])) mixed (by kernel_rfl) ?_|refine TRW.fork ?_|refine TRW.leaf ?_|refine TRW.both ?_ ?_|refine Gi2 (fun _=>?_) fun _=>?_|refine Gi3 ?_|refine Gi4 fun _=>?_|fail)
  refine OW.call (jTime _ _ jts jrs2 (1, 1) _ jtLS jrLS2 (by decide)) ?_
  rintro u _ ⟨hu, rfl⟩
  obtain rfl := timed_w hu
  clear hu
  repeat' (first|refine Gi0 fun _=>?_|refine Gi1 ?_|refine CW.drawsTreeA (id := 10) (.fork [0, 1, 2, 3] 4 8 (.leaf [5, 6, 7, 8, 9, 10]) (.leaf [4, 5, 6, 7, 9, 10])) mixed (by kernel_rfl) ?_|refine TRW.fork ?_|refine TRW.leaf ?_|refine TRW.both ?_ ?_|refine Gi2 (fun _=>?_) fun _=>?_|refine Gi3 ?_|refine Gi4 fun _=>?_|fail)
  refine OW.call (jJudge 1 sortC1 _ _ jts jrs2 (1, 2) _ jtLS jrLS2 (by decide) jn3) ?_
  rintro u _ ⟨hu, rfl⟩
  obtain rfl := judged_w3 hu
  clear hu
  have eA := ev14
  have eB := ev00
  repeat' (first|refine Gi0 fun _=>?_|refine Gi1 ?_|refine CW.drawsTreeA (id := 10) (.fork [0, 1, 2, 3] 4 8 (.leaf [5, 6, 7, 8, 9, 10]) (.leaf [4, 5, 6, 7, 9, 10])) mixed (by kernel_rfl) ?_|refine TRW.fork ?_|refine TRW.leaf ?_|refine TRW.both ?_ ?_|refine Gi2 (fun _=>?_) fun _=>?_|refine Gi3 ?_|refine Gi4 fun _=>?_|fail)
  refine RW.slHi (h' := 5) (j := 5) jrRd (by decide) ?_
  rw [sl5]
  repeat' (first|refine Gi0 fun _=>?_|refine Gi1 ?_|refine CW.drawsTreeA (id := 10) (.fork [0, 1, 2, 3] 4 8 (.leaf [5, 6, 7, 8, 9, 10]) (.leaf [4, 5, 6, 7, 9, 10])) mixed (by kernel_rfl) ?_|refine TRW.fork ?_|refine TRW.leaf ?_|refine TRW.both ?_ ?_|refine Gi2 (fun _=>?_) fun _=>?_|refine Gi3 ?_|refine Gi4 fun _=>?_|fail)
  · refine RW.call (jJudge 1 sortC1 _ _ jts (jrs2.take 5) (1, 1) _ jtLS jrLS5 (by decide) jn4) ?_
    rintro u _ ⟨hu, rfl⟩
    obtain rfl := judged_w4 hu
    clear hu
    refine pinAll ?_
    repeat' (first|refine Gi0 fun _=>?_|refine Gi1 ?_|refine CW.drawsTreeA (id := 10) (.fork [0, 1, 2, 3] 4 8 (.leaf [5, 6, 7, 8, 9, 10]) (.leaf [4, 5, 6, 7, 9, 10])) mixed (by kernel_rfl) ?_|refine TRW.fork ?_|refine TRW.leaf ?_|refine TRW.both ?_ ?_|refine Gi2 (fun _=>?_) fun _=>?_|refine Gi3 ?_|refine Gi4 fun _=>?_|fail)
    refine OW.call (num26 _ _) ?_
    rintro _ _ ⟨rfl, rfl⟩
    repeat' (first|refine Gi0 fun _=>?_|refine Gi1 ?_|refine CW.drawsTreeA (id := 10) (.fork [0, 1, 2, 3] 4 8 (.leaf [5, 6, 7, 8, 9, 10]) (.leaf [4, 5, 6, 7, 9, 10])) mixed (by kernel_rfl) ?_|refine TRW.fork ?_|refine TRW.leaf ?_|refine TRW.both ?_ ?_|refine Gi2 (fun _=>?_) fun _=>?_|refine Gi3 ?_|refine Gi4 fun _=>?_|fail)
    refine OW.call (num26 _ _) ?_
    rintro _ _ ⟨rfl, rfl⟩
    repeat' (first|refine Gi0 fun _=>?_|refine Gi1 ?_|refine CW.drawsTreeA (id := 10) (.fork [0, 1, 2, 3] 4 8 (.leaf [5, 6, 7, 8, 9, 10]) (.leaf [4, 5, 6, 7, 9, 10])) mixed (by kernel_rfl) ?_|refine TRW.fork ?_|refine TRW.leaf ?_|refine TRW.both ?_ ?_|refine Gi2 (fun _=>?_) fun _=>?_|refine Gi3 ?_|refine Gi4 fun _=>?_|fail)
    refine OW.call (num26 _ _) ?_
    rintro _ _ ⟨rfl, rfl⟩
    repeat' (first|refine Gi0 fun _=>?_|refine Gi1 ?_|refine CW.drawsTreeA (id := 10) (.fork [0, 1, 2, 3] 4 8 (.leaf [5, 6, 7, 8, 9, 10]) (.leaf [4, 5, 6, 7, 9, 10])) mixed (by kernel_rfl) ?_|refine TRW.fork ?_|refine TRW.leaf ?_|refine TRW.both ?_ ?_|refine Gi2 (fun _=>?_) fun _=>?_|refine Gi3 ?_|refine Gi4 fun _=>?_|fail)
    refine OW.call (num26 _ _) ?_
    rintro _ _ ⟨rfl, rfl⟩
    repeat' (first|refine Gi0 fun _=>?_|refine Gi1 ?_|refine CW.drawsTreeA (id := 10) (.fork [0, 1, 2, 3] 4 8 (.leaf [5, 6, 7, 8, 9, 10]) (.leaf [4, 5, 6, 7, 9, 10])) mixed (by kernel_rfl) ?_|refine TRW.fork ?_|refine TRW.leaf ?_|refine TRW.both ?_ ?_|refine Gi2 (fun _=>?_) fun _=>?_|refine Gi3 ?_|refine Gi4 fun _=>?_|fail)
    refine OW.call (num26 _ _) ?_
    rintro _ _ ⟨rfl, rfl⟩
    repeat' (first|refine Gi0 fun _=>?_|refine Gi1 ?_|refine CW.drawsTreeA (id := 10) (.fork [0, 1, 2, 3] 4 8 (.leaf [5, 6, 7, 8, 9, 10]) (.leaf [4, 5, 6, 7, 9, 10])) mixed (by kernel_rfl) ?_|refine TRW.fork ?_|refine TRW.leaf ?_|refine TRW.both ?_ ?_|refine Gi2 (fun _=>?_) fun _=>?_|refine Gi3 ?_|refine Gi4 fun _=>?_|fail)
    exact bodyK.retD L (Res.one Tryz.results9) ⟨rfl, rfl⟩
  · refine RW.call (jJudge 1 sortC1 _ _ jts (jrs2.take 5) (1, 1) _ jtLS jrLS5 (by decide) jn4) ?_
    rintro u _ ⟨hu, rfl⟩
    obtain rfl := judged_w4 hu
    clear hu
    refine pinAll ?_
    repeat' (first|refine Gi0 fun _=>?_|refine Gi1 ?_|refine CW.drawsTreeA (id := 10) (.fork [0, 1, 2, 3] 4 8 (.leaf [5, 6, 7, 8, 9, 10]) (.leaf [4, 5, 6, 7, 9, 10])) mixed (by kernel_rfl) ?_|refine TRW.fork ?_|refine TRW.leaf ?_|refine TRW.both ?_ ?_|refine Gi2 (fun _=>?_) fun _=>?_|refine Gi3 ?_|refine Gi4 fun _=>?_|fail)
    refine OW.call (num26 _ _) ?_
    rintro _ _ ⟨rfl, rfl⟩
    repeat' (first|refine Gi0 fun _=>?_|refine Gi1 ?_|refine CW.drawsTreeA (id := 10) (.fork [0, 1, 2, 3] 4 8 (.leaf [5, 6, 7, 8, 9, 10]) (.leaf [4, 5, 6, 7, 9, 10])) mixed (by kernel_rfl) ?_|refine TRW.fork ?_|refine TRW.leaf ?_|refine TRW.both ?_ ?_|refine Gi2 (fun _=>?_) fun _=>?_|refine Gi3 ?_|refine Gi4 fun _=>?_|fail)
    refine OW.call (num26 _ _) ?_
    rintro _ _ ⟨rfl, rfl⟩
    repeat' (first|refine Gi0 fun _=>?_|refine Gi1 ?_|refine CW.drawsTreeA (id := 10) (.fork [0, 1, 2, 3] 4 8 (.leaf [5, 6, 7, 8, 9, 10]) (.leaf [4, 5, 6, 7, 9, 10])) mixed (by kernel_rfl) ?_|refine TRW.fork ?_|refine TRW.leaf ?_|refine TRW.both ?_ ?_|refine Gi2 (fun _=>?_) fun _=>?_|refine Gi3 ?_|refine Gi4 fun _=>?_|fail)
    refine OW.call (num26 _ _) ?_
    rintro _ _ ⟨rfl, rfl⟩
    repeat' (first|refine Gi0 fun _=>?_|refine Gi1 ?_|refine CW.drawsTreeA (id := 10) (.fork [0, 1, 2, 3] 4 8 (.leaf [5, 6, 7, 8, 9, 10]) (.leaf [4, 5, 6, 7, 9, 10])) mixed (by kernel_rfl) ?_|refine TRW.fork ?_|refine TRW.leaf ?_|refine TRW.both ?_ ?_|refine Gi2 (fun _=>?_) fun _=>?_|refine Gi3 ?_|refine Gi4 fun _=>?_|fail)
    refine OW.call (num26 _ _) ?_
    rintro _ _ ⟨rfl, rfl⟩
    repeat' (first|refine Gi0 fun _=>?_|refine Gi1 ?_|refine CW.drawsTreeA (id := 10) (.fork [0, 1, 2, 3] 4 8 (.leaf [5, 6, 7, 8, 9, 10]) (.leaf [4, 5, 6, 7, 9, 10])) mixed (by kernel_rfl) ?_|refine TRW.fork ?_|refine TRW.leaf ?_|refine TRW.both ?_ ?_|refine Gi2 (fun _=>?_) fun _=>?_|refine Gi3 ?_|refine Gi4 fun _=>?_|fail)
    refine OW.call (num26 _ _) ?_
    rintro _ _ ⟨rfl, rfl⟩
    repeat' (first|refine Gi0 fun _=>?_|refine Gi1 ?_|refine CW.drawsTreeA (id := 10) (.fork [0, 1, 2, 3] 4 8 (.leaf [5, 6, 7, 8, 9, 10]) (.leaf [4, 5, 6, 7, 9, 10])) mixed (by kernel_rfl) ?_|refine TRW.fork ?_|refine TRW.leaf ?_|refine TRW.both ?_ ?_|refine Gi2 (fun _=>?_) fun _=>?_|refine Gi3 ?_|refine Gi4 fun _=>?_|fail)
    exact bodyK.retD L (Res.one Tryz.results9) ⟨rfl, rfl⟩
end Go.Proofs.YtmnhooepaemlcaaGreat
