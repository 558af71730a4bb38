/-
  For every input the law OrderLeast returns true, and each argument reads behind the call as it read before. This text holds lemmas for it (part 9).
  Conditions: none.
-/
import Derived.Test.YtmnhooepaemlcaaGreatOL2
import Derived.Test.YtmnhooepaemlcaaGreatOL8
set_option linter.all false
namespace Go.Proofs.YtmnhooepaemlcaaGreat
open Go Go.Pw Go.Pw.Sc Go.Pw.Md
set_option maxRecDepth 100000
set_option maxHeartbeats 4000000
set_option synthInstance.maxHeartbeats 400000
set_option synthInstance.maxSize 2000
attribute [local irreducible] CW OW RW thenK blockK
attribute [local irreducible] scopeK loopK TRW ATW
theorem pc_eq {p q : Pc} (h1 : p.ad = q.ad) (h2 : p.size = q.size) (h3 : p.room = q.room) (h4 : p.b = q.b) : p = q := by
 cases p; cases q; simp_all
theorem lat_sng {L : Chunk} : ∀ {xs : List Value} {ps : List Pc}, LAt 4 (PcR L) xs ps → ∀ v ∈ xs, Sng v
 | xs, [], h => fun v hv => by have : xs = [] := h; subst this; cases hv
 | _, p :: ps, ⟨c, r, e, h0, ⟨vB, h1, hB⟩, h2⟩ => fun v hv => by
  subst e h1
  have := hB.sng
  rcases List.mem_append.1 hv with hv | hv
  ·simp only [pcC, List.mem_cons, List.not_mem_nil, or_false] at hv
   rcases hv with rfl | rfl | rfl | rfl <;> infer_instance
  ·exact lat_sng h2 v hv
theorem rnew {N D L : Chunk} {v : Value} {n : Nat} {xs : List Value} {ps : List Pc} (h : Rd N 4 v n xs) (hn : n = ps.length) (hl : LAt 4 (PcR D) xs ps) (hlen : ps.length ≤ 1073741825) : RNew D L ps v (N ++ L) := by
 subst hn
 have hm : MemC D (N ++ D) := ⟨fun q hq => List.mem_append_right _ hq⟩
 exact ⟨N, rfl, ⟨xs, h.mono fun q hq => List.mem_append_left _ hq, hl.mono fun c a h => PcR.to c a h⟩, by omega⟩
theorem rWithout (m : Mod) (v : Value) (i : Nat) (hi : i < m.L.length) (hlen : m.L.length ≤ 1073741825) (D L : Chunk) [hD : MemC D L] (hl : RL D v m.L) : Fn1 Tryz.prog 123 [mV m v, .int .i64 i] L (fun u L' => ∃ v', u = mV m v' ∧ RNew D L (m.L.take i ++ m.L.drop (i + 1)) v' L') := by
 obtain ⟨xs, hxs, hlat⟩ := hl.rd
 have h1 := hlat.take i
 have h2 := hlat.drop (i + 1)
 have hxl := hlat.length
 obtain ⟨av, cv, rfl⟩ := hl.slice
 have hs1 := hxs.sl (Nat.zero_le i) (Nat.le_of_lt hi)
 have hs2 := hxs.sl (lo := i + 1) (hi := m.L.length) (by omega) (Nat.le_refl _)
 rw [Nat.zero_mul, List.drop_zero, Nat.sub_zero] at hs1
 rw [List.take_of_length_le (by rw [List.length_drop, hxl, Nat.sub_mul]; omega)] at hs2
 have ss1 := hs1.sng
 have ss2 := hs2.sng
 intro w0; refine Spec.enter2 Tryz.func123 rfl Tryz.ntmps123 (by decide) ?_
 repeat' (first|refine Gi0 fun _=>?_|refine Gi1 ?_|refine CW.drawsSw (id := 1) [] [1, 2, 3, 4, 6, 7, 8, 9, 10, 0, 5, 11] 12 [13] mixed (by kernel_rfl) ?_|refine Gi2 (fun _=>?_) fun _=>?_|refine Gi3 ?_|refine Gi4 fun _=>?_|fail)
 rename_i b2 b4
 refine RW.slHi (h' := i) (j := (i : Int)) hxs (by omega) ?_
 repeat' (first|refine Gi0 fun _=>?_|refine Gi1 ?_|refine CW.drawsSw (id := 1) [] [1, 2, 3, 4, 6, 7, 8, 9, 10, 0, 5, 11] 12 [13] mixed (by kernel_rfl) ?_|refine Gi2 (fun _=>?_) fun _=>?_|refine Gi3 ?_|refine Gi4 fun _=>?_|fail)
 refine RW.slLo (l' := i + 1) (j := (i : Int) + 1) (hj := ⟨by omega⟩) hxs (by omega) ?_
 repeat' (first|refine Gi0 fun _=>?_|refine Gi1 ?_|refine CW.drawsSw (id := 1) [] [1, 2, 3, 4, 6, 7, 8, 9, 10, 0, 5, 11] 12 [13] mixed (by kernel_rfl) ?_|refine Gi2 (fun _=>?_) fun _=>?_|refine Gi3 ?_|refine Gi4 fun _=>?_|fail)
 refine RW.appendE (RowE.empty ..) (At.nil _) hs1.to (lat_sng h1) (by omega) (fun v1 N1 hr1 => pinOld ?_)
 have sv1 := hr1.sng
 repeat' (first|refine Gi0 fun _=>?_|refine Gi1 ?_|refine CW.drawsSw (id := 1) [] [1, 2, 3, 4, 6, 7, 8, 9, 10, 0, 5, 11] 12 [13] mixed (by kernel_rfl) ?_|refine Gi2 (fun _=>?_) fun _=>?_|refine Gi3 ?_|refine Gi4 fun _=>?_|fail)
 refine RW.appendE hr1 inferInstance hs2.to (lat_sng h2) (by omega) (fun v2 N2 hr2 => pinOld ?_)
 have sv2 := hr2.sng
 repeat' (first|refine Gi0 fun _=>?_|refine Gi1 ?_|refine CW.drawsSw (id := 1) [] [1, 2, 3, 4, 6, 7, 8, 9, 10, 0, 5, 11] 12 [13] mixed (by kernel_rfl) ?_|refine Gi2 (fun _=>?_) fun _=>?_|refine Gi3 ?_|refine Gi4 fun _=>?_|fail)
 refine bodyK.retD (N2 ++ L) (Res.of1 Tryz.results123) ⟨v2, rfl, ?_⟩
 rw [List.nil_append] at hr2
 exact rnew hr2.rd (by simp; omega) (LAt.append h1 h2) (by simp; omega)
theorem rWith (m : Mod) (v : Value) (p : Pc) (vB : Value) (hlen : m.L.length ≤ 1073741824) (D L : Chunk) [hD : MemC D L] (hl : RL D v m.L) (hB : Rd D 1 vB p.b.length (iv p.b)) : Fn1 Tryz.prog 163 [mV m v, .agg (pcC p vB).toArray] L (fun u L' => ∃ v', u = mV m v' ∧ RNew D L (ins p m.L) v' L') := by
 have hn := hl.len
 have sB := hB.sng
 obtain ⟨av, cv, rfl⟩ := hl.slice
 have hlp : LAt 4 (PcR D) (pcC p vB) [p] := LAt.one rfl ⟨vB, rfl, hB⟩
 intro w0; refine Spec.enter2 Tryz.func163 rfl Tryz.ntmps163 (by decide) ?_
 repeat' (first|refine Gi0 fun _=>?_|refine Gi1 ?_|refine CW.drawsP (id := 6) [0,1,2,3,4,5,6,7,8,9,10,11,12] mixed (by kernel_rfl) ?_|refine Gi2 (fun _=>?_) fun _=>?_|refine Gi3 ?_|refine Gi4 fun _=>?_|fail)
 rename_i b2 b3 b4
 refine CW.count m.L.length (fun i ρ ds L' => ds = [] ∧ (∃ (X N : Chunk) (w : Value) (out : List Pc) (put : Bool) (xs : List Value), L' = X ++ (N ++ ((b4, .cells #[.int .i64 0, .int .i64 0, .slice none 0 0] 72 (0, 0)) :: (b3, .cells #[.int .u32 p.ad, .int .i64 p.size, .int .i64 p.room, vB] 159 (0, 0)) :: (b2, .cells #[.int .i64 m.slot, .int .i64 m.quota, .slice av m.L.length cv] 72 (0, 0)) :: L)) ∧ Row 159 4 N w out.length xs ∧ LAt 4 (PcR D) xs out ∧ out.length ≤ i + 1 ∧ Ev ρ 5 w ∧ Ev ρ 6 (.bool put) ∧
  (put = false → out = m.L.take i ∧ ∀ q ∈ m.L.take i, ¬ p.ad < q.ad) ∧ (put = true → out = ins p (m.L.take i) ∧ ∃ q ∈ m.L.take i, p.ad < q.ad)) ∧ Ev ρ 2 (.pointer (some ⟨b2, 0, none⟩)) ∧ Ev ρ 3 (.pointer (some ⟨b3, 0, none⟩)) ∧ Ev ρ 4 (.pointer (some ⟨b4, 0, none⟩)) ∧ Ev ρ 7 (.int .i64 (i : Int)))
  ⟨rfl, ⟨[], [], _, [], false, [], rfl, Row.nil _ _, rfl, by simp, inferInstance, inferInstance, fun _ => ⟨by simp, by simp⟩, fun h => (by cases h)⟩, inferInstance, inferInstance, inferInstance, inferInstance⟩ ?_
 rintro i ρ ds L' hi ⟨rfl, ⟨X, N, w, out, put, xs, rfl, hrow, hlat, hol, e5, e6, hf, ht⟩, e2, e3, e4, e7⟩
 have sw := hrow.sng
 by_cases hlt : i < m.L.length
 ·obtain ⟨bk, kk, capk, lk, ek, frk, hbe, hbin, hbc, hbn⟩ := hl.open (by omega)
  cases hbe
  have hbin' : InC L bk (.cells lk.toArray ek frk) := ⟨hD.out _ hbin.out⟩
  obtain ⟨cc, hcut, vq, rfl, hrd⟩ := hbn i hlt
  have sq := hrd.sng
  obtain ⟨n0, n1, n2, n3⟩ := cut4 hcut
  have hlq : LAt 4 (PcR D) (pcC m.L[i] vq) [m.L[i]] := LAt.one rfl ⟨vq, rfl, hrd⟩
  have hts := take_step hlt
  have hmem : m.L[i] ∈ m.L.take (i + 1) := by rw [hts]; exact List.mem_append_right _ (List.mem_singleton.2 rfl)
  generalize m.L[i] = q at *
  have hq4 : ∀ z ∈ pcC q vq, Sng z := fun z hz => by
   simp only [pcC, List.mem_cons, List.not_mem_nil, or_false] at hz
   rcases hz with rfl | rfl | rfl | rfl <;> infer_instance
  have hp4 : ∀ z ∈ pcC p vB, Sng z := fun z hz => by
   simp only [pcC, List.mem_cons, List.not_mem_nil, or_false] at hz
   rcases hz with rfl | rfl | rfl | rfl <;> infer_instance
  cases put with
  | true =>
   obtain ⟨ho, hex⟩ := ht rfl
   repeat' (first|refine Gi0 fun _=>?_|refine Gi1 ?_|refine CW.drawsP (id := 6) [0,1,2,3,4,5,6,7,8,9,10,11,12] mixed (by kernel_rfl) ?_|refine Gi2 (fun _=>?_) fun _=>?_|refine Gi3 ?_|refine Gi4 fun _=>?_|fail)
   rename_i bt
   refine OW.append hrow inferInstance (Rd.blk (n := 1) (l := pcC q vq) rfl (Nat.le_refl _)) hq4 (by omega) (fun w' N' hrow' => ?_)
   have sw' := hrow'.sng
   repeat' (first|refine Gi0 fun _=>?_|refine Gi1 ?_|refine CW.drawsP (id := 6) [0,1,2,3,4,5,6,7,8,9,10,11,12] mixed (by kernel_rfl) ?_|refine Gi2 (fun _=>?_) fun _=>?_|refine Gi3 ?_|refine Gi4 fun _=>?_|fail)
   refine ⟨hlt, rfl, ⟨_ :: X, N', w', out ++ [q], true, _, rfl, by rw [List.length_append]; exact hrow', LAt.append hlat hlq, by simp; omega, inferInstance, inferInstance, fun h => (by cases h), fun _ => ⟨?_, ?_⟩⟩, inferInstance, inferInstance, inferInstance, by rw [Int.natCast_add]; infer_instance⟩
   ·rw [hts, ins_app hex, ho]
   ·obtain ⟨z, hz, h⟩ := hex
    exact ⟨z, by rw [hts]; exact List.mem_append_left _ hz, h⟩
  | false =>
   obtain ⟨ho, hno⟩ := hf rfl
   have hol' : out.length ≤ i := by rw [ho, List.length_take]; omega
   by_cases hgt : p.ad < q.ad
   ·repeat' (first|refine Gi0 fun _=>?_|refine Gi1 ?_|refine CW.drawsP (id := 6) [0,1,2,3,4,5,6,7,8,9,10,11,12] mixed (by kernel_rfl) ?_|refine Gi2 (fun _=>?_) fun _=>?_|refine Gi3 ?_|refine Gi4 fun _=>?_|fail)
    rename_i bt
    refine OW.append hrow inferInstance (Rd.blk (n := 1) (l := pcC p vB) rfl (Nat.le_refl _)) hp4 (by omega) (fun w' N' hrow' => ?_)
    have sw' := hrow'.sng
    repeat' (first|refine Gi0 fun _=>?_|refine Gi1 ?_|refine CW.drawsP (id := 6) [0,1,2,3,4,5,6,7,8,9,10,11,12] mixed (by kernel_rfl) ?_|refine Gi2 (fun _=>?_) fun _=>?_|refine Gi3 ?_|refine Gi4 fun _=>?_|fail)
    rename_i bt2
    refine OW.append hrow' inferInstance (Rd.blk (n := 1) (l := pcC q vq) rfl (Nat.le_refl _)) hq4 (by omega) (fun w2 N2 hrow2 => ?_)
    have sw2 := hrow2.sng
    repeat' (first|refine Gi0 fun _=>?_|refine Gi1 ?_|refine CW.drawsP (id := 6) [0,1,2,3,4,5,6,7,8,9,10,11,12] mixed (by kernel_rfl) ?_|refine Gi2 (fun _=>?_) fun _=>?_|refine Gi3 ?_|refine Gi4 fun _=>?_|fail)
    refine ⟨hlt, rfl, ⟨_ :: _ :: X, N2, w2, out ++ [p] ++ [q], true, _, rfl, by simpa using hrow2, LAt.append (LAt.append hlat hlp) hlq, by simp; omega, inferInstance, inferInstance, fun h => (by cases h), fun _ => ⟨?_, ⟨q, hmem, hgt⟩⟩⟩, inferInstance, inferInstance, inferInstance, by rw [Int.natCast_add]; infer_instance⟩
    rw [hts, ins_mid hgt hno, ho]
    simp
   ·repeat' (first|refine Gi0 fun _=>?_|refine Gi1 ?_|refine CW.drawsP (id := 6) [0,1,2,3,4,5,6,7,8,9,10,11,12] mixed (by kernel_rfl) ?_|refine Gi2 (fun _=>?_) fun _=>?_|refine Gi3 ?_|refine Gi4 fun _=>?_|fail)
    rename_i bt
    refine OW.append hrow inferInstance (Rd.blk (n := 1) (l := pcC q vq) rfl (Nat.le_refl _)) hq4 (by omega) (fun w' N' hrow' => ?_)
    have sw' := hrow'.sng
    repeat' (first|refine Gi0 fun _=>?_|refine Gi1 ?_|refine CW.drawsP (id := 6) [0,1,2,3,4,5,6,7,8,9,10,11,12] mixed (by kernel_rfl) ?_|refine Gi2 (fun _=>?_) fun _=>?_|refine Gi3 ?_|refine Gi4 fun _=>?_|fail)
    refine ⟨hlt, rfl, ⟨_ :: X, N', w', out ++ [q], false, _, rfl, by rw [List.length_append]; exact hrow', LAt.append hlat hlq, by simp; omega, inferInstance, inferInstance, fun _ => ⟨by rw [hts, ho], fun z hz => ?_⟩, fun h => (by cases h)⟩, inferInstance, inferInstance, inferInstance, by rw [Int.natCast_add]; infer_instance⟩
    rw [hts] at hz
    rcases List.mem_append.1 hz with hz | hz
    ·exact hno z hz
    ·rw [List.mem_singleton.1 hz]; exact hgt
 ·obtain rfl : i = m.L.length := by omega
  rw [List.take_length] at hf ht
  cases put with
  | true =>
   obtain ⟨ho, hex⟩ := ht rfl
   repeat' (first|refine Gi0 fun _=>?_|refine Gi1 ?_|refine CW.drawsP (id := 6) [0,1,2,3,4,5,6,7,8,9,10,11,12] mixed (by kernel_rfl) ?_|refine Gi2 (fun _=>?_) fun _=>?_|refine Gi3 ?_|refine Gi4 fun _=>?_|fail)
   refine bodyK.retD (N ++ L) (Res.of1 Tryz.results163) ⟨w, rfl, ?_⟩
   rw [← ho]
   exact rnew hrow.rd rfl hlat (by omega)
  | false =>
   obtain ⟨ho, hno⟩ := hf rfl
   have hp4 : ∀ z ∈ pcC p vB, Sng z := fun z hz => by
    simp only [pcC, List.mem_cons, List.not_mem_nil, or_false] at hz
    rcases hz with rfl | rfl | rfl | rfl <;> infer_instance
   have hol2 : out.length ≤ 1073741824 := by rw [ho]; exact hlen
   repeat' (first|refine Gi0 fun _=>?_|refine Gi1 ?_|refine CW.drawsP (id := 6) [0,1,2,3,4,5,6,7,8,9,10,11,12] mixed (by kernel_rfl) ?_|refine Gi2 (fun _=>?_) fun _=>?_|refine Gi3 ?_|refine Gi4 fun _=>?_|fail)
   rename_i bt
   refine OW.append hrow inferInstance (Rd.blk (n := 1) (l := pcC p vB) rfl (Nat.le_refl _)) hp4 (by omega) (fun w' N' hrow' => ?_)
   have sw' := hrow'.sng
   repeat' (first|refine Gi0 fun _=>?_|refine Gi1 ?_|refine CW.drawsP (id := 6) [0,1,2,3,4,5,6,7,8,9,10,11,12] mixed (by kernel_rfl) ?_|refine Gi2 (fun _=>?_) fun _=>?_|refine Gi3 ?_|refine Gi4 fun _=>?_|fail)
   refine bodyK.retD (N' ++ L) (Res.of1 Tryz.results163) ⟨w', rfl, ?_⟩
   rw [ins_last hno, ← ho]
   exact rnew hrow'.rd (by simp) (LAt.append hlat hlp) (by simp; omega)
end Go.Proofs.YtmnhooepaemlcaaGreat
