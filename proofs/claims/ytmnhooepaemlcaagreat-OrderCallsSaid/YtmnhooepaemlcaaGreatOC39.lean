/- OrderCalls: true for every input; arguments as before. Part 39. Conditions: none. -/
import Derived.Test.YtmnhooepaemlcaaGreatOC2
import Derived.Test.YtmnhooepaemlcaaGreatOC37
set_option linter.all false
namespace Go.Proofs.YtmnhooepaemlcaaGreat
open Go Go.Pw Go.Pw.Sc Go.Pw.Md Go.Pw.Jd Go.Pw.Or
set_option maxRecDepth 100000
set_option maxHeartbeats 4000000
set_option synthInstance.maxHeartbeats 400000
set_option synthInstance.maxSize 2000
attribute [local irreducible] CW OW RW thenK blockK
attribute [local irreducible] scopeK loopK TRW ATW
theorem rSameOp (o : OpM) (v1 v2 : Value) (L : Chunk) (h1 : BS L v1 o.bytes) (h2 : BS L v2 o.bytes) : Fn1 Tryz.prog 80 [opV o v1, opV o v2] L (fun u L' => u = .bool true ∧ L = L') := by
 have s1 := h1.sng
 have s2 := h2.sng
 have hbb : bstr o.bytes = bstr o.bytes := rfl
 intro w0; refine Spec.enter2 Tryz.func80 rfl Tryz.ntmps80 (by decide) ?_
 repeat' (first|refine Ga0 fun _=>?_|refine Ga1 ?_|refine Ga2 (fun _=>?_) fun _=>?_|refine Ga3 ?_|refine Ga4 fun _=>?_|fail)
 refine OW.bytesStr h1.rd ?_
 repeat' (first|refine Ga0 fun _=>?_|refine Ga1 ?_|refine Ga2 (fun _=>?_) fun _=>?_|refine Ga3 ?_|refine Ga4 fun _=>?_|fail)
 refine OW.bytesStr h2.rd ?_
 repeat' (first|refine Ga0 fun _=>?_|refine Ga1 ?_|refine Ga2 (fun _=>?_) fun _=>?_|refine Ga3 ?_|refine Ga4 fun _=>?_|fail)
 exact bodyK.retD L (Res.one Tryz.results80) ⟨rfl, rfl⟩
theorem rSameOut (o : OutM) (v1 v2 : Value) (L : Chunk) (h1 : BS L v1 o.bytes) (h2 : BS L v2 o.bytes) : Fn1 Tryz.prog 81 [outV o v1, outV o v2] L (fun u L' => u = .bool true ∧ L = L') := by
 have s1 := h1.sng
 have s2 := h2.sng
 have hbb : bstr o.bytes = bstr o.bytes := rfl
 intro w0; refine Spec.enter2 Tryz.func81 rfl Tryz.ntmps81 (by decide) ?_
 repeat' (first|refine Ga0 fun _=>?_|refine Ga1 ?_|refine Ga2 (fun _=>?_) fun _=>?_|refine Ga3 ?_|refine Ga4 fun _=>?_|fail)
 refine OW.bytesStr h1.rd ?_
 repeat' (first|refine Ga0 fun _=>?_|refine Ga1 ?_|refine Ga2 (fun _=>?_) fun _=>?_|refine Ga3 ?_|refine Ga4 fun _=>?_|fail)
 refine OW.bytesStr h2.rd ?_
 repeat' (first|refine Ga0 fun _=>?_|refine Ga1 ?_|refine Ga2 (fun _=>?_) fun _=>?_|refine Ga3 ?_|refine Ga4 fun _=>?_|fail)
 exact bodyK.retD L (Res.one Tryz.results81) ⟨rfl, rfl⟩
set_option synthInstance.maxSize 6000 in
set_option synthInstance.maxHeartbeats 4000000 in
theorem rSame (va vb : Value) (l : List Td) (L : Chunk) (h1 : LS 13 TdAt L va l) (h2 : LS 13 TdAt L vb l) : Fn1 Tryz.prog 36 [va, vb] L (fun u L' => u = .bool true ∧ L = L') := by
 obtain ⟨aa, ca, rfl⟩ := h1.slice
 obtain ⟨ab, cb, rfl⟩ := h2.slice
 have hll := h1.len
 intro w0; refine Spec.enter2 Tryz.func36 rfl Tryz.ntmps36 (by decide) ?_
 have z6:DrP 6 [0,1,2,3,4,5,6,7,8,9,10,11,12,13,14,15,16,17,18,19,20,21,22,23,24,25,26,27,28,29,30,31,32,33,34,35,36,37,38,39,40,41,42,43,44,45,46,47,48,49,50,51,52,53,54,55,56,57,58,59,60,61,62,63,64]:=⟨⟨⟩⟩
 repeat' (first|refine Gi0 fun _=>?_|refine Gi1 ?_|refine Gi2 (fun _=>?_) fun _=>?_|refine Gi3 ?_|fail)
 refine CW.count l.length (fun i ρ ds L' => ds = [] ∧ L = L' ∧ Ev ρ 0 (.slice aa l.length ca) ∧ Ev ρ 1 (.slice ab l.length cb) ∧ Ev ρ 5 (.int .i64 (i : Int))) ⟨rfl, rfl, ii, ii, ii⟩ ?_
 rintro i ρ ds L' hi ⟨rfl, rfl, e0, e1, e5⟩
 by_cases hlt : i < l.length
 ·obtain ⟨bk, kk, capk, lk, ek, frk, hbe, hbin, hbc, hbn⟩ := h1.open (by omega)
  cases hbe
  obtain ⟨bj, kj, capj, lj, ej, frj, hbe, hbinj, hbcj, hbnj⟩ := h2.open (by omega)
  cases hbe
  obtain ⟨cc, hcut, vx, vb, rfl, hvx, hvb, htr⟩ := hbn i hlt
  obtain ⟨cc, hcutj, wx, wb, rfl, hwx, hwb, _⟩ := hbnj i hlt
  have hlti : (i : Int) < l.length := by omega
  clear hbn hbnj
  generalize l[i] = y at *
  have q1 := hvx.sng
  have q2 := hvb.sng
  have q3 := hwx.sng
  have q4 := hwb.sng
  have g0 : NthL lk (kk + i * 13) (.int .i64 y.thread) := nth_cut 0 hcut rfl
  have g0' : NthL lj (kj + i * 13) (.int .i64 y.thread) := nth_cut 0 hcutj rfl
  have g1 : CutL lk (kk + i * 13 + 1) 6 [.int .i64 y.op.kind, .int .u32 y.op.ad, .int .u64 y.op.size, .int .u64 y.op.mult, .int .u64 y.op.many, vx] := cutSub hcut 1 6 (by decide)
  have g1' : CutL lj (kj + i * 13 + 1) 6 [.int .i64 y.op.kind, .int .u32 y.op.ad, .int .u64 y.op.size, .int .u64 y.op.mult, .int .u64 y.op.many, wx] := cutSub hcutj 1 6 (by decide)
  have g2 : CutL lk (kk + i * 13 + 7) 4 [.int .i64 y.out.errno, .int .u32 y.out.ad, .int .i64 y.out.n, vb] := cutSub hcut 7 4 (by decide)
  have g2' : CutL lj (kj + i * 13 + 7) 4 [.int .i64 y.out.errno, .int .u32 y.out.ad, .int .i64 y.out.n, wb] := cutSub hcutj 7 4 (by decide)
  have g3 : NthL lk (kk + i * 13 + 11) (.int .i64 y.from_) := nth_cut 11 hcut rfl
  have g3' : NthL lj (kj + i * 13 + 11) (.int .i64 y.from_) := nth_cut 11 hcutj rfl
  have g4 : NthL lk (kk + i * 13 + 12) (.int .i64 y.to_) := nth_cut 12 hcut rfl
  have g4' : NthL lj (kj + i * 13 + 12) (.int .i64 y.to_) := nth_cut 12 hcutj rfl
  have z1 : y.thread = y.thread := rfl
  have z2 : y.from_ = y.from_ := rfl
  have z3 : y.to_ = y.to_ := rfl
  repeat' (first|refine Gi0 fun _=>?_|refine Gi1 ?_|refine Gi2 (fun _=>?_) fun _=>?_|refine Gi3 ?_|fail)
  simp only [List.append_eq, List.cons_append, List.nil_append]
  repeat' (first|refine Gi0 fun _=>?_|refine Gi1 ?_|refine Gi2 (fun _=>?_) fun _=>?_|refine Gi3 ?_|fail)
  refine RW.call (rSameOp y.op vx wx _ hvx hwx) ?_
  rintro _ _ ⟨rfl, rfl⟩
  refine pinAll ?_
  repeat' (first|refine Gi0 fun _=>?_|refine Gi1 ?_|refine Gi2 (fun _=>?_) fun _=>?_|refine Gi3 ?_|fail)
  refine RW.call (rSameOut y.out vb wb _ hvb hwb) ?_
  rintro _ _ ⟨rfl, rfl⟩
  refine pinAll ?_
  repeat' (first|refine Gi0 fun _=>?_|refine Gi1 ?_|refine Gi2 (fun _=>?_) fun _=>?_|refine Gi3 ?_|fail)
  exact ⟨hlt, rfl, rfl, ii, ii, by rw [Int.natCast_add]; infer_instance⟩
 ·obtain rfl : i = l.length := by omega
  repeat' (first|refine Gi0 fun _=>?_|refine Gi1 ?_|refine Gi2 (fun _=>?_) fun _=>?_|refine Gi3 ?_|fail)
  exact bodyK.retD L (Res.one Tryz.results36) ⟨rfl, rfl⟩
theorem rQuota30 (vl vr : Value) (ts : List Turn) (rs : List Rp) (x : Hd) (L : Chunk) (hl : LS 13 TnAt L vl ts) (hr : LS 11 RpAt L vr rs) (hx : inR .i64 x.1 ∧ inR .i64 x.2) (hb : ts.length ≤ 4096) :
  Fn1 Tryz.prog 35 [vl, vr, hdV x] L (fun u L' => u = .tuple #[.int .i64 (askQ ts rs x), .int .i64 (askE ts rs x)] ∧ L = L') := by
 have sl := hl.sng
 have sr := hr.sng
 intro w0; refine Spec.enter3 Tryz.func35 rfl Tryz.ntmps35 (by decide) ?_
 have z7:DrP 7 [0,1,2,3,4,5,6,7,8,9,10,11,12,13,14,15,16,17,18,19,20,21,22,23,24,25,26,27,28,29,30,31,32,33,34,35,36,37,38]:=⟨⟨⟩⟩
 repeat' (first|refine Gi0 fun _=>?_|refine Gi1 ?_|refine Gi2 (fun _=>?_) fun _=>?_|refine Gi3 ?_|refine Gi4 fun _=>?_|fail)
 rename_i b5
 refine OW.call (rJudge26 vl vr ts rs x _ (LS.to hl (fun c a h => TnAt.to c a h)) (LS.to hr (fun c a h => RpAt.to c a h)) hx hb) ?_
 rintro _ _ ⟨⟨a1, a2, rfl⟩, rfl⟩
 by_cases hask : askE ts rs x = 0
 ·rw [show askQ ts rs x = (quotaOf (rows (ts.zip rs)) x).1 from if_pos hask, hask]
  obtain ⟨hlen, _, hq⟩ := ask_zero hask
  obtain ⟨al, cl, hal⟩ := hl.slice
  obtain ⟨ar, cr, har⟩ := hr.slice
  subst hal har
  have hll : (ts.length : Int) ≤ 4096 := by omega
  generalize hW : ts.zip rs = W at *
  have hWl : W.length = ts.length := by rw [← hW, List.length_zip, ← hlen, Nat.min_self]
  repeat' (first|refine Gi0 fun _=>?_|refine Gi1 ?_|refine Gi2 (fun _=>?_) fun _=>?_|refine Gi3 ?_|refine Gi4 fun _=>?_|fail)
  rename_i b8
  refine CW.count ts.length (fun i ρ ds L' => ds = [] ∧ (rows (W.take i)).find? (creates x) = none ∧ L' = (b8, .cells #[.int .i64 a1, .int .i64 a2] 27 (0, 0)) :: (b5, b5C x) :: L ∧
    Ev ρ 0 (.slice al ts.length cl) ∧ Ev ρ 1 (.slice ar rs.length cr) ∧ Ev ρ 5 (ptr b5) ∧ Ev ρ 10 (.int .i64 (i : Int))) ⟨rfl, rfl, rfl, ii, ii, ii, ii⟩ ?_
  rintro i ρ ds L' hi ⟨rfl, hn, rfl, e0, e1, e5, e10⟩
  by_cases hlt : i < ts.length
  ·have hWi : i < W.length := by omega
   have hri : i < rs.length := by omega
   obtain ⟨bk, kk, capk, lk, ek, frk, hbe, hbin, hbc, hbn⟩ := hl.open (by omega)
   cases hbe
   obtain ⟨bj, kj, capj, lj, ej, frj, hbe, hbinj, hbcj, hbnj⟩ := hr.open (by omega)
   cases hbe
   obtain ⟨cc, hcut, vb, vd, rfl, hvb, hvd, htr⟩ := hbn i hlt
   obtain ⟨cc, hcutj, vo, rfl, hvo, hrr⟩ := hbnj i (by omega)
   have hW1 : W[i] = (ts[i], rs[i]) := by subst hW; simp
   have hit := quota_hit (x := x) hWi hn
   have miss := quota_miss (x := x) hWi hn
   rw [hW1] at hit miss
   simp only at hit miss
   have g0 : NthL lj (kj + i * 11) (.int .i64 rs[i].errno) := nth_cut 0 hcutj rfl
   have g1 : CutL lj (kj + i * 11 + 1) 2 [.int .i64 rs[i].hslot, .int .i64 rs[i].hgen] := cutSub hcutj 1 2 (by decide)
   have g2 : NthL lk (kk + i * 13) (.int .i64 ts[i].kind) := nth_cut 0 hcut rfl
   have g3 : NthL lk (kk + i * 13 + 2) (.int .i64 ts[i].quota) := nth_cut 2 hcut rfl
   clear hbn hbnj hW1
   generalize ts[i] = t at *
   generalize rs[i] = r at *
   have hlti : (i : Int) < ts.length := by omega
   have hltj : (i : Int) < rs.length := by omega
   have no : (∀ B, ¬ (fine 1 ⟨t, r, i, B⟩ ∧ (r.hslot, r.hgen) = x ∧ 0 ≤ t.quota ∧ t.quota ≤ 1073741824)) → (rows (W.take (i + 1))).find? (creates x) = none := fun h => miss fun B => decide_eq_false (h B)
   by_cases c1 : t.kind = 1
   ·by_cases c2 : r.errno = 0
    ·by_cases c3 : r.hslot = x.1 ∧ r.hgen = x.2
     ·by_cases c4 : 0 ≤ t.quota
      ·by_cases c5 : t.quota ≤ 1073741824
       ·have hh := hit (fun B => decide_eq_true ⟨⟨c1, c2⟩, Prod.ext c3.1 c3.2, c4, c5⟩) hq
        rw [hh]
        repeat' (first|refine Gi0 fun _=>?_|refine Gi1 ?_|refine Gi2 (fun _=>?_) fun _=>?_|refine Gi3 ?_|refine Gi4 fun _=>?_|fail)
        exact bodyK.retD L (Res.two Tryz.results35) ⟨rfl, rfl⟩
       ·have hm := no fun B h => c5 h.2.2.2
        repeat' (first|refine Gi0 fun _=>?_|refine Gi1 ?_|refine Gi2 (fun _=>?_) fun _=>?_|refine Gi3 ?_|refine Gi4 fun _=>?_|fail)
        exact ⟨hlt, rfl, hm, rfl, ii, ii, ii, by rw [Int.natCast_add]; infer_instance⟩
      ·have hm := no fun B h => c4 h.2.2.1
       repeat' (first|refine Gi0 fun _=>?_|refine Gi1 ?_|refine Gi2 (fun _=>?_) fun _=>?_|refine Gi3 ?_|refine Gi4 fun _=>?_|fail)
       exact ⟨hlt, rfl, hm, rfl, ii, ii, ii, by rw [Int.natCast_add]; infer_instance⟩
     ·have hm := no fun B h => c3 ⟨congrArg Prod.fst h.2.1, congrArg Prod.snd h.2.1⟩
      repeat' (first|refine Gi0 fun _=>?_|refine Gi1 ?_|refine Gi2 (fun _=>?_) fun _=>?_|refine Gi3 ?_|refine Gi4 fun _=>?_|fail)
      exact ⟨hlt, rfl, hm, rfl, ii, ii, ii, by rw [Int.natCast_add]; infer_instance⟩
    ·have hm := no fun B h => c2 h.1.2
     repeat' (first|refine Gi0 fun _=>?_|refine Gi1 ?_|refine Gi2 (fun _=>?_) fun _=>?_|refine Gi3 ?_|refine Gi4 fun _=>?_|fail)
     exact ⟨hlt, rfl, hm, rfl, ii, ii, ii, by rw [Int.natCast_add]; infer_instance⟩
   ·have hm := no fun B h => c1 h.1.1
    repeat' (first|refine Gi0 fun _=>?_|refine Gi1 ?_|refine Gi2 (fun _=>?_) fun _=>?_|refine Gi3 ?_|refine Gi4 fun _=>?_|fail)
    exact ⟨hlt, rfl, hm, rfl, ii, ii, ii, by rw [Int.natCast_add]; infer_instance⟩
  ·obtain rfl : i = ts.length := by omega
   rw [List.take_of_length_le (by omega)] at hn
   exact (quota_none hn hq).elim
 ·rw [show askQ ts rs x = 0 from if_neg hask]
  rcases ask_cases ts rs x with h | h | h | h
  ·exact absurd h hask
  all_goals
   rw [h]
   repeat' (first|refine Gi0 fun _=>?_|refine Gi1 ?_|refine Gi2 (fun _=>?_) fun _=>?_|refine Gi3 ?_|refine Gi4 fun _=>?_|fail)
   exact bodyK.retD L (Res.two Tryz.results35) ⟨rfl, rfl⟩
end Go.Proofs.YtmnhooepaemlcaaGreat
