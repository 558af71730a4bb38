/-
  For every input the law OrderLeast returns true, and each argument reads behind the call as it read before. This text holds lemmas for it (part 8).
  Conditions: none.
-/
import Derived.Test.YtmnhooepaemlcaaGreatOL2
import Derived.Test.YtmnhooepaemlcaaGreatOL3
import Derived.Test.YtmnhooepaemlcaaGreatOL4
set_option linter.all false
namespace Go.Proofs.YtmnhooepaemlcaaGreat
open Go Go.Pw Go.Pw.Sc Go.Pw.Md
set_option maxRecDepth 100000
set_option maxHeartbeats 4000000
set_option synthInstance.maxHeartbeats 400000
set_option synthInstance.maxSize 2000
attribute [local irreducible] CW OW RW thenK blockK
attribute [local irreducible] scopeK loopK TRW ATW
theorem take_step {α : Type} {l : List α} {i : Nat} (h : i < l.length) : l.take (i + 1) = l.take i ++ [l[i]] := by rw [List.take_add_one, List.getElem?_eq_getElem h]; rfl
theorem cut4 {l : List Value} {k : Nat} {a b c d : Value} (h : CutL l k 4 [a, b, c, d]) : NthL l k a ∧ NthL l (k + 1) b ∧ NthL l (k + 2) c ∧ NthL l (k + 3) d :=
 ⟨(cutSub h 0 1 (by decide)).nth rfl, (cutSub h 1 1 (by decide)).nth rfl, (cutSub h 2 1 (by decide)).nth rfl, (cutSub h 3 1 (by decide)).nth rfl⟩
theorem rFind (m : Mod) (v : Value) (a : Int) (ha : inR .u32 a) (L : Chunk) (hl : RL L v m.L) : Fn1 Tryz.prog 122 [mV m v, .int .u32 a] L (fun u L' => (∃ j, u = .int .i64 j ∧ PlR (fun p => p.ad = a) m.L j) ∧ L = L') := by
 have hn := hl.len
 obtain ⟨av, cv, rfl⟩ := hl.slice
 intro w0; refine Spec.enter2 Tryz.func122 rfl Tryz.ntmps122 (by decide) ?_
 repeat' (first|refine Ga0 fun _=>?_|refine Ga1 ?_|refine Ga2 (fun _=>?_) fun _=>?_|refine Ga3 ?_|refine Ga4 fun _=>?_|fail)
 rename_i b2
 refine CW.count m.L.length (fun i ρ ds L' => ds = [] ∧ L' = (b2, .cells #[.int .i64 m.slot, .int .i64 m.quota, .slice av m.L.length cv] 72 (0, 0)) :: L ∧ (∀ p ∈ m.L.take i, p.ad ≠ a) ∧ Ev ρ 1 (.int .u32 a) ∧ Ev ρ 2 (.pointer (some ⟨b2, 0, none⟩)) ∧ Ev ρ 5 (.int .i64 (i : Int))) ⟨rfl, rfl, by simp, inferInstance, inferInstance, inferInstance⟩ ?_
 rintro i ρ ds L' hi ⟨rfl, rfl, hg, e1, e2, e5⟩
 by_cases hlt : i < m.L.length
 ·obtain ⟨bk, kk, capk, lk, ek, frk, hbe, hbin, hbc, hbn⟩ := hl.open (by omega)
  cases hbe
  obtain ⟨cc, hcut, vB, rfl, hrd⟩ := hbn i hlt
  have sB := hrd.sng
  obtain ⟨n0, n1, n2, n3⟩ := cut4 hcut
  have hts := take_step hlt
  have hpl : m.L[i].ad = a → PlR (fun p => p.ad = a) m.L i := fun h => .inr ⟨i, hlt, rfl, h⟩
  have htk : ¬ m.L[i].ad = a → ∀ p ∈ m.L.take (i + 1), p.ad ≠ a := fun h p hp => by
   rw [hts] at hp
   rcases List.mem_append.1 hp with hp | hp
   ·exact hg p hp
   ·rw [List.mem_singleton.1 hp]; exact h
  generalize m.L[i] = p at *
  repeat' (first|refine Ga0 fun _=>?_|refine Ga1 ?_|refine Ga2 (fun _=>?_) fun _=>?_|refine Ga3 ?_|refine Ga4 fun _=>?_|fail)
  ·exact bodyK.retD L (Res.one Tryz.results122) ⟨⟨_, rfl, hpl (by assumption)⟩, rfl⟩
  ·exact ⟨hlt, rfl, rfl, htk (by assumption), inferInstance, inferInstance, by rw [Int.natCast_add]; infer_instance⟩
 ·obtain rfl : i = m.L.length := by omega
  rw [List.take_length] at hg
  repeat' (first|refine Ga0 fun _=>?_|refine Ga1 ?_|refine Ga2 (fun _=>?_) fun _=>?_|refine Ga3 ?_|refine Ga4 fun _=>?_|fail)
  exact bodyK.retD L (Res.one Tryz.results122) ⟨⟨_, rfl, .inl ⟨rfl, hg⟩⟩, rfl⟩
theorem rIn (m : Mod) (v : Value) (a : Int) (ha : -1 ≤ a ∧ a ≤ 8589934592) (L : Chunk) (hl : RL L v m.L) (hok : ∀ p ∈ m.L, PcOk p) : Fn1 Tryz.prog 68 [mV m v, .int .i64 a] L (fun u L' => (∃ j, u = .int .i64 j ∧ PlR (fun p => p.ad ≤ a ∧ a < p.ad + p.room) m.L j) ∧ L = L') := by
 have hn := hl.len
 obtain ⟨av, cv, rfl⟩ := hl.slice
 obtain ⟨ha1, ha2⟩ := ha
 intro w0; refine Spec.enter2 Tryz.func68 rfl Tryz.ntmps68 (by decide) ?_
 repeat' (first|refine Gi0 fun _=>?_|refine Gi1 ?_|refine CW.drawsP (id := 4) [0,1,2,3,4,5,6,7,8,9,10,11,12,13,14,15,16,17,18,19,20,21,22,23,24,25,26] mixed (by kernel_rfl) ?_|refine Gi2 (fun _=>?_) fun _=>?_|refine Gi3 ?_|refine Gi4 fun _=>?_|fail)
 rename_i b2
 refine CW.count m.L.length (fun i ρ ds L' => ds = [] ∧ L' = (b2, .cells #[.int .i64 m.slot, .int .i64 m.quota, .slice av m.L.length cv] 72 (0, 0)) :: L ∧ (∀ p ∈ m.L.take i, ¬ (p.ad ≤ a ∧ a < p.ad + p.room)) ∧ Ev ρ 1 (.int .i64 a) ∧ Ev ρ 2 (.pointer (some ⟨b2, 0, none⟩)) ∧ Ev ρ 5 (.int .i64 (i : Int))) ⟨rfl, rfl, by simp, inferInstance, inferInstance, inferInstance⟩ ?_
 rintro i ρ ds L' hi ⟨rfl, rfl, hg, e1, e2, e5⟩
 by_cases hlt : i < m.L.length
 ·obtain ⟨bk, kk, capk, lk, ek, frk, hbe, hbin, hbc, hbn⟩ := hl.open (by omega)
  cases hbe
  obtain ⟨cc, hcut, vB, rfl, hrd⟩ := hbn i hlt
  have sB := hrd.sng
  obtain ⟨n0, n1, n2, n3⟩ := cut4 hcut
  have hts := take_step hlt
  have okp := hok _ (List.getElem_mem hlt)
  have o1 := okp.ad
  have o2 := okp.room
  have o3 := okp.fin
  have hpl : m.L[i].ad ≤ a ∧ a < m.L[i].ad + m.L[i].room → PlR (fun p => p.ad ≤ a ∧ a < p.ad + p.room) m.L i := fun h => .inr ⟨i, hlt, rfl, h⟩
  have htk : ¬ (m.L[i].ad ≤ a ∧ a < m.L[i].ad + m.L[i].room) → ∀ p ∈ m.L.take (i + 1), ¬ (p.ad ≤ a ∧ a < p.ad + p.room) := fun h p hp => by
   rw [hts] at hp
   rcases List.mem_append.1 hp with hp | hp
   ·exact hg p hp
   ·rw [List.mem_singleton.1 hp]; exact h
  generalize m.L[i] = p at *
  repeat' (first|refine Gi0 fun _=>?_|refine Gi1 ?_|refine CW.drawsP (id := 4) [0,1,2,3,4,5,6,7,8,9,10,11,12,13,14,15,16,17,18,19,20,21,22,23,24,25,26] mixed (by kernel_rfl) ?_|refine Gi2 (fun _=>?_) fun _=>?_|refine Gi3 ?_|refine Gi4 fun _=>?_|fail)
  all_goals first
   | exact bodyK.retD L (Res.one Tryz.results68) ⟨⟨_, rfl, hpl (by omega)⟩, rfl⟩
   | exact ⟨hlt, rfl, rfl, htk (by omega), inferInstance, inferInstance, by rw [Int.natCast_add]; infer_instance⟩
 ·obtain rfl : i = m.L.length := by omega
  rw [List.take_length] at hg
  repeat' (first|refine Gi0 fun _=>?_|refine Gi1 ?_|refine CW.drawsP (id := 4) [0,1,2,3,4,5,6,7,8,9,10,11,12,13,14,15,16,17,18,19,20,21,22,23,24,25,26] mixed (by kernel_rfl) ?_|refine Gi2 (fun _=>?_) fun _=>?_|refine Gi3 ?_|refine Gi4 fun _=>?_|fail)
  exact bodyK.retD L (Res.one Tryz.results68) ⟨⟨_, rfl, .inl ⟨rfl, hg⟩⟩, rfl⟩
theorem sum_take {l : List Pc} (hok : ∀ p ∈ l, PcOk p) (i : Nat) : 0 ≤ ((l.take i).map Pc.room).sum ∧ ((l.take i).map Pc.room).sum ≤ (l.map Pc.room).sum := by
 have h0 : ∀ l : List Pc, (∀ p ∈ l, PcOk p) → 0 ≤ (l.map Pc.room).sum := by
  intro l
  induction l with
  | nil => intro _; simp
  | cons p l ih =>
   intro h
   have := ih fun q hq => h q (List.mem_cons_of_mem _ hq)
   have := (h p (List.mem_cons_self ..)).room
   simp only [List.map_cons, List.sum_cons]
   omega
 refine ⟨h0 _ fun p hp => hok p (List.mem_of_mem_take hp), ?_⟩
 have e : l.map Pc.room = (l.take i).map Pc.room ++ (l.drop i).map Pc.room := by rw [← List.map_append, List.take_append_drop]
 have := h0 (l.drop i) fun p hp => hok p (List.mem_of_mem_drop hp)
 rw [e, List.sum_append]
 omega
theorem wf_len2 {m : Mod} (h : WF m) : m.L.length ≤ 1073741824 := by
 have key : ∀ l : List Pc, (∀ p ∈ l, PcOk p) → (l.length : Int) ≤ (l.map Pc.room).sum := by
  intro l
  induction l with
  | nil => intro _; simp
  | cons p l ih =>
   intro hok
   have := ih fun q hq => hok q (List.mem_cons_of_mem _ hq)
   have := (hok p (List.mem_cons_self ..)).room
   simp only [List.length_cons, List.map_cons, List.sum_cons]
   omega
 have h1 := key m.L h.ok
 have h2 := h.charge
 have h3 := h.quota1
 unfold Mod.charge at h2
 omega
theorem rCharge (m : Mod) (hwf : WF m) (v : Value) (L : Chunk) (hl : RL L v m.L) : Fn1 Tryz.prog 67 [mV m v] L (fun u L' => u = .int .i64 m.charge ∧ L = L') := by
 have hn := hl.len
 have hc := hwf.charge
 have hq := hwf.quota1
 obtain ⟨av, cv, rfl⟩ := hl.slice
 intro w0; refine Spec.enter1 Tryz.func67 rfl Tryz.ntmps67 (by decide) ?_
 repeat' (first|refine Ga0 fun _=>?_|refine Ga1 ?_|refine Ga2 (fun _=>?_) fun _=>?_|refine Ga3 ?_|refine Ga4 fun _=>?_|fail)
 rename_i b2
 refine CW.count m.L.length (fun i ρ ds L' => ds = [] ∧ L' = (b2, .cells #[.int .i64 m.slot, .int .i64 m.quota, .slice av m.L.length cv] 72 (0, 0)) :: L ∧ Ev ρ 3 (.int .i64 ((m.L.take i).map Pc.room).sum) ∧ Ev ρ 1 (.pointer (some ⟨b2, 0, none⟩)) ∧ Ev ρ 4 (.int .i64 (i : Int))) ⟨rfl, rfl, inferInstance, inferInstance, inferInstance⟩ ?_
 rintro i ρ ds L' hi ⟨rfl, rfl, e3, e1, e4⟩
 have hs := sum_take hwf.ok i
 have hs' := sum_take hwf.ok (i + 1)
 unfold Mod.charge at hc
 by_cases hlt : i < m.L.length
 ·obtain ⟨bk, kk, capk, lk, ek, frk, hbe, hbin, hbc, hbn⟩ := hl.open (by omega)
  cases hbe
  obtain ⟨cc, hcut, vB, rfl, hrd⟩ := hbn i hlt
  have sB := hrd.sng
  obtain ⟨n0, n1, n2, n3⟩ := cut4 hcut
  rw [take_step hlt, List.map_append, List.sum_append, List.map_cons, List.map_nil, List.sum_cons, List.sum_nil, Int.add_zero] at hs'
  have hst : ((m.L.take (i + 1)).map Pc.room).sum = ((m.L.take i).map Pc.room).sum + m.L[i].room := by
   rw [take_step hlt, List.map_append, List.sum_append, List.map_cons, List.map_nil, List.sum_cons, List.sum_nil, Int.add_zero]
  generalize m.L[i] = p at *
  generalize ((m.L.take i).map Pc.room).sum = s at *
  repeat' (first|refine Ga0 fun _=>?_|refine Ga1 ?_|refine Ga2 (fun _=>?_) fun _=>?_|refine Ga3 ?_|refine Ga4 fun _=>?_|fail)
  exact ⟨hlt, rfl, rfl, by rw [hst]; infer_instance, inferInstance, by rw [Int.natCast_add]; infer_instance⟩
 ·obtain rfl : i = m.L.length := by omega
  rw [List.take_length] at e3
  repeat' (first|refine Ga0 fun _=>?_|refine Ga1 ?_|refine Ga2 (fun _=>?_) fun _=>?_|refine Ga3 ?_|refine Ga4 fun _=>?_|fail)
  exact bodyK.retD L (Res.one Tryz.results67) ⟨rfl, rfl⟩
theorem rBytes (n x : Int) (hn : n ≤ 16777216) (L : Chunk) : Fn1 Tryz.prog 121 [.int .i64 n, .int .i64 x] L (fun u L' => ∃ N, L' = N ++ L ∧ Row 3 1 N u n.toNat (iv (List.replicate n.toNat x))) := by
 intro w0; refine Spec.enter2 Tryz.func121 rfl Tryz.ntmps121 (by decide) ?_
 repeat' (first|refine Ga0 fun _=>?_|refine Ga1 ?_|refine Ga2 (fun _=>?_) fun _=>?_|refine Ga3 ?_|refine Ga4 fun _=>?_|fail)
 refine CW.count n.toNat (fun i ρ ds L' => ds = [] ∧ (∃ X N v, L' = X ++ (N ++ L) ∧ Row 3 1 N v i (iv (List.replicate i x)) ∧ Ev ρ 5 v) ∧ Ev ρ 0 (.int .i64 n) ∧ Ev ρ 1 (.int .i64 x) ∧ Ev ρ 6 (.int .i64 (i : Int))) ⟨rfl, ⟨[], [], _, rfl, Row.nil _ _, inferInstance⟩, inferInstance, inferInstance, inferInstance⟩ ?_
 rintro i ρ ds L' hi ⟨rfl, ⟨X, N, v, rfl, hrow, e5⟩, e0, e1, e6⟩
 have sv := hrow.sng
 by_cases hlt : i < n.toNat
 ·repeat' (first|refine Ga0 fun _=>?_|refine Ga1 ?_|refine Ga2 (fun _=>?_) fun _=>?_|refine Ga3 ?_|refine Ga4 fun _=>?_|fail)
  rename_i bt
  refine OW.append hrow inferInstance (Rd.blk (n := 1) (l := [.int .i64 x]) rfl (Nat.le_refl _)) (fun z hz => by rw [List.mem_singleton.1 hz]; infer_instance) (by omega) (fun v' N' hrow' => ?_)
  have sv' := hrow'.sng
  have hrow2 : Row 3 1 N' v' (i + 1) (iv (List.replicate (i + 1) x)) := by
   rw [List.replicate_succ']
   simpa [iv] using hrow'
  repeat' (first|refine Ga0 fun _=>?_|refine Ga1 ?_|refine Ga2 (fun _=>?_) fun _=>?_|refine Ga3 ?_|refine Ga4 fun _=>?_|fail)
  exact ⟨hlt, rfl, ⟨_ :: X, N', v', rfl, hrow2, inferInstance⟩, inferInstance, inferInstance, by rw [Int.natCast_add]; infer_instance⟩
 ·obtain rfl : i = n.toNat := by omega
  repeat' (first|refine Ga0 fun _=>?_|refine Ga1 ?_|refine Ga2 (fun _=>?_) fun _=>?_|refine Ga3 ?_|refine Ga4 fun _=>?_|fail)
  exact bodyK.retD (N ++ L) (Res.one Tryz.results121) ⟨N, rfl, hrow⟩
end Go.Proofs.YtmnhooepaemlcaaGreat

namespace Go.Proofs.YtmnhooepaemlcaaGreat
open Go Go.Pw Go.Pw.Sc Go.Pw.Md
set_option maxRecDepth 100000
set_option maxHeartbeats 4000000
set_option synthInstance.maxHeartbeats 400000
set_option synthInstance.maxSize 2000
attribute [local irreducible] CW OW RW thenK blockK
attribute [local irreducible] scopeK loopK TRW ATW
theorem rBook (s : Int) (hs : 0 ≤ s ∧ s < 4) (L : Chunk) : Fn1 Tryz.prog 198 [.int .i64 s] L (fun u L' => u = .int .i64 (64 * s + 1) ∧ L = L') := by
 obtain ⟨s1, s2⟩ := hs
 intro w0; refine Spec.enter1 Tryz.func198 rfl Tryz.ntmps198 (by decide) ?_
 repeat' (first|refine Ga0 fun _=>?_|refine Ga1 ?_|refine Ga2 (fun _=>?_) fun _=>?_|refine Ga3 ?_|refine Ga4 fun _=>?_|fail)
 exact bodyK.retD L (Res.one Tryz.results198) ⟨rfl, rfl⟩
theorem rBase (s : Int) (hs : 0 ≤ s ∧ s < 4) (L : Chunk) : Fn1 Tryz.prog 200 [.int .i64 s] L (fun u L' => u = .int .i64 (4096 * (s + 1)) ∧ L = L') := by
 obtain ⟨s1, s2⟩ := hs
 intro w0; refine Spec.enter1 Tryz.func200 rfl Tryz.ntmps200 (by decide) ?_
 repeat' (first|refine Ga0 fun _=>?_|refine Ga1 ?_|refine Ga2 (fun _=>?_) fun _=>?_|refine Ga3 ?_|refine Ga4 fun _=>?_|fail)
 exact bodyK.retD L (Res.one Tryz.results200) ⟨rfl, rfl⟩
theorem rRegion (s c : Int) (hs : 0 ≤ s ∧ s < 4) (hc : 0 ≤ c ∧ c < 8) (L : Chunk) : Fn1 Tryz.prog 199 [.int .i64 s, .int .i64 c] L (fun u L' => u = .int .i64 (4096 * (s + 1) + 1 + 17 * c) ∧ L = L') := by
 have hs' := hs
 obtain ⟨s1, s2⟩ := hs
 obtain ⟨c1, c2⟩ := hc
 intro w0; refine Spec.enter2 Tryz.func199 rfl Tryz.ntmps199 (by decide) ?_
 repeat' (first|refine Ga0 fun _=>?_|refine Ga1 ?_|refine Ga2 (fun _=>?_) fun _=>?_|refine Ga3 ?_|refine Ga4 fun _=>?_|fail)
 refine OW.call (rBase s hs' _) ?_
 rintro _ _ ⟨rfl, rfl⟩
 repeat' (first|refine Ga0 fun _=>?_|refine Ga1 ?_|refine Ga2 (fun _=>?_) fun _=>?_|refine Ga3 ?_|refine Ga4 fun _=>?_|fail)
 exact bodyK.retD L (Res.one Tryz.results199) ⟨rfl, rfl⟩
def regIn (s p c : Int) : Prop := 4096 * (s + 1) + 1 + 17 * c ≤ p ∧ p < 4096 * (s + 1) + 1 + 17 * c + 16
theorem kind_book {s p : Int} (h : 64 * s + 1 ≤ p ∧ p < 64 * s + 1 + 48) : slotKind s p = 1 := by unfold slotKind; rw [if_pos (by omega)]
theorem kind_reg {s p : Int} (h : ¬ (64 * s + 1 ≤ p ∧ p < 64 * s + 1 + 48)) {c : Int} (h0 : 0 ≤ c ∧ c < 8) (hr : regIn s p c) : slotKind s p = 2 := by
 unfold regIn at hr
 unfold slotKind
 rw [if_neg (by omega), if_pos (by omega)]
theorem kind_rest {s p : Int} (h : ¬ (64 * s + 1 ≤ p ∧ p < 64 * s + 1 + 48)) (hr : ∀ c : Nat, c < 8 → ¬ regIn s p c) : slotKind s p = if 256 ≤ p - 4096 * (s + 1) ∧ p - 4096 * (s + 1) < 4096 then 3 else if 0 ≤ p - 4096 * (s + 1) ∧ p - 4096 * (s + 1) < 4096 then 4 else 0 := by
 unfold slotKind
 rw [if_neg (by omega), if_neg]
 rintro ⟨h1, h2, h3⟩
 have := hr ((p - 4096 * (s + 1) - 1) / 17).toNat (by omega)
 unfold regIn at this
 omega
theorem site_hit {p : Int} {s : Nat} (hs : s < 4) (h : ∀ t : Nat, t < s → slotKind t p = 0) {k : Int} (hk : slotKind s p = k) (h0 : k ≠ 0) : site p = (k, (s : Int)) := by
 unfold site
 match s, hs with
 | 0, _ =>
  have hk : slotKind 0 p = k := hk
  rw [hk, if_pos h0]; rfl
 | 1, _ =>
  have g0 : slotKind 0 p = 0 := h 0 (by omega)
  have hk : slotKind 1 p = k := hk
  rw [g0, hk, if_neg (by simp), if_pos h0]; rfl
 | 2, _ =>
  have g0 : slotKind 0 p = 0 := h 0 (by omega)
  have g1 : slotKind 1 p = 0 := h 1 (by omega)
  have hk : slotKind 2 p = k := hk
  rw [g0, g1, hk, if_neg (by simp), if_neg (by simp), if_pos h0]; rfl
 | 3, _ =>
  have g0 : slotKind 0 p = 0 := h 0 (by omega)
  have g1 : slotKind 1 p = 0 := h 1 (by omega)
  have g2 : slotKind 2 p = 0 := h 2 (by omega)
  have hk : slotKind 3 p = k := hk
  rw [g0, g1, g2, hk, if_neg (by simp), if_neg (by simp), if_neg (by simp), if_pos h0]; rfl
theorem site_none {p : Int} (h : ∀ t : Nat, t < 4 → slotKind t p = 0) : site p = (0, 0) := by
 have g0 : slotKind 0 p = 0 := h 0 (by omega)
 have g1 : slotKind 1 p = 0 := h 1 (by omega)
 have g2 : slotKind 2 p = 0 := h 2 (by omega)
 have g3 : slotKind 3 p = 0 := h 3 (by omega)
 unfold site
 rw [g0, g1, g2, g3]
 simp
theorem all_step {Q : Nat → Prop} {i : Nat} (h : ∀ t, t < i → Q t) (hi : Q i) : ∀ t, t < i + 1 → Q t := fun t ht => by
 rcases Nat.lt_or_ge t i with h1 | h1
 ·exact h t h1
 ·obtain rfl : t = i := by omega
  exact hi
theorem rSite (p : Int) (hp : 0 ≤ p ∧ p < 65536) (L : Chunk) : Fn1 Tryz.prog 165 [.int .i64 p] L (fun u L' => (∃ c q, u = .tuple #[siteV (site p).1 (site p).2 c q, .int .i64 0]) ∧ L = L') := by
 obtain ⟨p1, p2⟩ := hp
 have fin : ∀ {k s : Int}, site p = (k, s) → ∀ c q, ∃ c' q', (Value.tuple #[siteV k s c q, .int .i64 0]) = .tuple #[siteV (site p).1 (site p).2 c' q', .int .i64 0] := fun h c q => ⟨c, q, by rw [h]⟩
 intro w0; refine Spec.enter1 Tryz.func165 rfl Tryz.ntmps165 (by decide) ?_
 repeat' (first|refine Ga0 fun _=>?_|refine Ga1 ?_|refine Ga2 (fun _=>?_) fun _=>?_|refine Ga3 ?_|refine Ga4 fun _=>?_|fail)
 rename_i b2
 refine CW.count 4 (fun i ρ ds L' => ds = [] ∧ L' = (b2, .cells #[.int .i64 0, .int .i64 0, .int .i64 0, .int .i64 0] 274 (0, 0)) :: L ∧ (∀ t : Nat, t < i → slotKind t p = 0) ∧ Ev ρ 0 (.int .i64 p) ∧ Ev ρ 2 (.pointer (some ⟨b2, 0, none⟩)) ∧ Ev ρ 4 (.int .i64 (i : Int))) ⟨rfl, rfl, fun t h => by omega, inferInstance, inferInstance, inferInstance⟩ ?_
 rintro i ρ ds L' hi ⟨rfl, rfl, hg, e0, e2, e4⟩
 by_cases hlt : i < 4
 ·have hs : 0 ≤ (i : Int) ∧ (i : Int) < 4 := by omega
  repeat' (first|refine Ga0 fun _=>?_|refine Ga1 ?_|refine Ga2 (fun _=>?_) fun _=>?_|refine Ga3 ?_|refine Ga4 fun _=>?_|fail)
  refine OW.call (rBook i hs _) ?_
  rintro _ _ ⟨rfl, rfl⟩
  have hit := fun {k} (hk : slotKind i p = k) (h0 : k ≠ 0) => fin (site_hit hlt hg hk h0)
  have nxt := fun (hk : slotKind i p = 0) => all_step hg hk
  by_cases hbook : 64 * (i : Int) + 1 ≤ p ∧ p < 64 * (i : Int) + 1 + 48
  ·have hb1 := hbook.1
   have hb2 := hbook.2
   repeat' (first|refine Ga0 fun _=>?_|refine Ga1 ?_|refine Ga2 (fun _=>?_) fun _=>?_|refine Ga3 ?_|refine Ga4 fun _=>?_|fail)
   refine OW.call (rBook i hs _) ?_
   rintro _ _ ⟨rfl, rfl⟩
   repeat' (first|refine Ga0 fun _=>?_|refine Ga1 ?_|refine Ga2 (fun _=>?_) fun _=>?_|refine Ga3 ?_|refine Ga4 fun _=>?_|fail)
   refine OW.call (rBook i hs _) ?_
   rintro _ _ ⟨rfl, rfl⟩
   repeat' (first|refine Ga0 fun _=>?_|refine Ga1 ?_|refine Ga2 (fun _=>?_) fun _=>?_|refine Ga3 ?_|refine Ga4 fun _=>?_|fail)
   exact bodyK.retD L (Res.of2 Tryz.results165) ⟨hit (kind_book hbook) (by decide) _ _, rfl⟩
  by_cases hb1 : 64 * (i : Int) + 1 ≤ p
  all_goals (
   repeat' (first|refine Ga0 fun _=>?_|refine Ga1 ?_|refine Ga2 (fun _=>?_) fun _=>?_|refine Ga3 ?_|refine Ga4 fun _=>?_|fail)
   try
    refine OW.call (rBook i hs _) ?_
    rintro _ _ ⟨rfl, rfl⟩
    repeat' (first|refine Ga0 fun _=>?_|refine Ga1 ?_|refine Ga2 (fun _=>?_) fun _=>?_|refine Ga3 ?_|refine Ga4 fun _=>?_|fail)
   refine CW.count 8 (fun j ρ ds L' => ds = [] ∧ L' = (b2, .cells #[.int .i64 0, .int .i64 0, .int .i64 0, .int .i64 0] 274 (0, 0)) :: L ∧ (∀ t : Nat, t < j → ¬ regIn i p t) ∧ Ev ρ 0 (.int .i64 p) ∧ Ev ρ 2 (.pointer (some ⟨b2, 0, none⟩)) ∧ Ev ρ 4 (.int .i64 (i : Int)) ∧ Ev ρ 5 (.int .i64 (j : Int))) ⟨rfl, rfl, fun t h => by omega, inferInstance, inferInstance, inferInstance, inferInstance⟩ ?_
   clear e0 e2 e4
   rintro j ρ ds L' hj ⟨rfl, rfl, hgr, e0, e2, e4, e5⟩
   by_cases hjl : j < 8
   ·have hc : 0 ≤ (j : Int) ∧ (j : Int) < 8 := by omega
    have hin : 4096 * ((i : Int) + 1) + 1 + 17 * (j : Int) ≤ p → p < 4096 * ((i : Int) + 1) + 1 + 17 * (j : Int) + 16 → regIn i p j := fun h1 h2 => ⟨h1, h2⟩
    have hout : ¬ (4096 * ((i : Int) + 1) + 1 + 17 * (j : Int) ≤ p ∧ p < 4096 * ((i : Int) + 1) + 1 + 17 * (j : Int) + 16) → ¬ regIn i p j := fun h1 h2 => h1 h2
    repeat' (first|refine Ga0 fun _=>?_|refine Ga1 ?_|refine Ga2 (fun _=>?_) fun _=>?_|refine Ga3 ?_|refine Ga4 fun _=>?_|fail)
    refine OW.call (rRegion i j hs hc _) ?_
    rintro _ _ ⟨rfl, rfl⟩
    by_cases hr1 : 4096 * ((i : Int) + 1) + 1 + 17 * (j : Int) ≤ p
    ·first | (exfalso; omega) | skip
     all_goals (
      repeat' (first|refine Ga0 fun _=>?_|refine Ga1 ?_|refine Ga2 (fun _=>?_) fun _=>?_|refine Ga3 ?_|refine Ga4 fun _=>?_|fail)
      refine OW.call (rRegion i j hs hc _) ?_
      rintro _ _ ⟨rfl, rfl⟩
      by_cases hr2 : p < 4096 * ((i : Int) + 1) + 1 + 17 * (j : Int) + 16
      ·repeat' (first|refine Ga0 fun _=>?_|refine Ga1 ?_|refine Ga2 (fun _=>?_) fun _=>?_|refine Ga3 ?_|refine Ga4 fun _=>?_|fail)
       refine OW.call (rRegion i j hs hc _) ?_
       rintro _ _ ⟨rfl, rfl⟩
       repeat' (first|refine Ga0 fun _=>?_|refine Ga1 ?_|refine Ga2 (fun _=>?_) fun _=>?_|refine Ga3 ?_|refine Ga4 fun _=>?_|fail)
       exact bodyK.retD L (Res.of2 Tryz.results165) ⟨hit (kind_reg hbook hc (hin hr1 hr2)) (by decide) _ _, rfl⟩
      ·repeat' (first|refine Ga0 fun _=>?_|refine Ga1 ?_|refine Ga2 (fun _=>?_) fun _=>?_|refine Ga3 ?_|refine Ga4 fun _=>?_|fail)
       exact ⟨hjl, rfl, rfl, all_step hgr (hout (by omega)), inferInstance, inferInstance, inferInstance, by rw [Int.natCast_add]; infer_instance⟩)
    ·repeat' (first|refine Ga0 fun _=>?_|refine Ga1 ?_|refine Ga2 (fun _=>?_) fun _=>?_|refine Ga3 ?_|refine Ga4 fun _=>?_|fail)
     exact ⟨hjl, rfl, rfl, all_step hgr (hout (by omega)), inferInstance, inferInstance, inferInstance, by rw [Int.natCast_add]; infer_instance⟩
   ·obtain rfl : j = 8 := by omega
    have hk := kind_rest hbook hgr
    repeat' (first|refine Ga0 fun _=>?_|refine Ga1 ?_|refine Ga2 (fun _=>?_) fun _=>?_|refine Ga3 ?_|refine Ga4 fun _=>?_|fail)
    refine OW.call (rBase i hs _) ?_
    rintro _ _ ⟨rfl, rfl⟩
    by_cases h3 : 256 ≤ p - 4096 * ((i : Int) + 1) ∧ p - 4096 * ((i : Int) + 1) < 4096
    ·rw [if_pos h3] at hk
     first | (exfalso; omega) | skip
     all_goals repeat' (first|refine Ga0 fun _=>?_|refine Ga1 ?_|refine Ga2 (fun _=>?_) fun _=>?_|refine Ga3 ?_|refine Ga4 fun _=>?_|fail)
     all_goals exact bodyK.retD L (Res.of2 Tryz.results165) ⟨hit hk (by decide) _ _, rfl⟩
    ·rw [if_neg h3] at hk
     by_cases h4 : 0 ≤ p - 4096 * ((i : Int) + 1) ∧ p - 4096 * ((i : Int) + 1) < 4096
     ·rw [if_pos h4] at hk
      first | (exfalso; omega) | skip
      all_goals repeat' (first|refine Ga0 fun _=>?_|refine Ga1 ?_|refine Ga2 (fun _=>?_) fun _=>?_|refine Ga3 ?_|refine Ga4 fun _=>?_|fail)
      all_goals exact bodyK.retD L (Res.of2 Tryz.results165) ⟨hit hk (by decide) _ _, rfl⟩
     ·rw [if_neg h4] at hk
      repeat' (first|refine Ga0 fun _=>?_|refine Ga1 ?_|refine Ga2 (fun _=>?_) fun _=>?_|refine Ga3 ?_|refine Ga4 fun _=>?_|fail)
      all_goals exact ⟨hlt, rfl, rfl, nxt hk, inferInstance, inferInstance, by rw [Int.natCast_add]; infer_instance⟩)
 ·obtain rfl : i = 4 := by omega
  repeat' (first|refine Ga0 fun _=>?_|refine Ga1 ?_|refine Ga2 (fun _=>?_) fun _=>?_|refine Ga3 ?_|refine Ga4 fun _=>?_|fail)
  exact bodyK.retD L (Res.of2 Tryz.results165) ⟨fin (site_none hg) _ _, rfl⟩
end Go.Proofs.YtmnhooepaemlcaaGreat

namespace Go.Proofs.YtmnhooepaemlcaaGreat
open Go Go.Pw Go.Pw.Sc Go.Pw.Md
set_option maxRecDepth 100000
set_option maxHeartbeats 4000000
set_option synthInstance.maxHeartbeats 400000
set_option synthInstance.maxSize 2000
attribute [local irreducible] CW OW RW thenK blockK
attribute [local irreducible] scopeK loopK TRW ATW
theorem pow_le {i j : Nat} (h : i ≤ j) : (2 : Int) ^ i ≤ 2 ^ j := by
 obtain ⟨k, rfl⟩ := Nat.exists_eq_add_of_le h
 induction k with
 | zero => exact Int.le_refl _
 | succ k ih =>
  have := ih (by omega)
  have h0 : (0 : Int) ≤ 2 ^ (i + k) := Int.pow_nonneg (by decide)
  rw [← Nat.add_assoc, Int.pow_succ]
  omega
theorem isMult_pow {i : Nat} : isMult ((2 : Int) ^ i) ↔ i ≤ 8 := by
 constructor
 ·intro h
  rcases Nat.lt_or_ge 8 i with h1 | h1
  ·have := pow_le h1
   have e : (2 : Int) ^ (8 + 1) = 512 := by decide
   rw [e] at this
   unfold isMult at h
   omega
  ·exact h1
 ·intro h
  match i, h with
  | 0, _ => decide
  | 1, _ => decide
  | 2, _ => decide
  | 3, _ => decide
  | 4, _ => decide
  | 5, _ => decide
  | 6, _ => decide
  | 7, _ => decide
  | 8, _ => decide
theorem isMult_is {n : Int} (h : isMult n) : ∃ i : Nat, i ≤ 8 ∧ n = 2 ^ i := by
 unfold isMult at h
 rcases h with rfl | rfl | rfl | rfl | rfl | rfl | rfl | rfl | rfl
 ·exact ⟨0, by decide, by decide⟩
 ·exact ⟨1, by decide, by decide⟩
 ·exact ⟨2, by decide, by decide⟩
 ·exact ⟨3, by decide, by decide⟩
 ·exact ⟨4, by decide, by decide⟩
 ·exact ⟨5, by decide, by decide⟩
 ·exact ⟨6, by decide, by decide⟩
 ·exact ⟨7, by decide, by decide⟩
 ·exact ⟨8, by decide, by decide⟩
theorem rLog (n : Int) (L : Chunk) : Fn1 Tryz.prog 159 [.int .u64 n] L (fun u L' => (∃ j, u = .int .i64 j ∧ ((0 ≤ j ∧ j ≤ 8) ↔ isMult n) ∧ -1 ≤ j ∧ j < 64) ∧ L = L') := by
 intro w0; refine Spec.enter1 Tryz.func159 rfl Tryz.ntmps159 (by decide) ?_
 repeat' (first|refine Ga0 fun _=>?_|refine Ga1 ?_|refine Ga2 (fun _=>?_) fun _=>?_|refine Ga3 ?_|refine Ga4 fun _=>?_|fail)
 refine CW.count 64 (fun i ρ ds L' => ds = [] ∧ L' = L ∧ (∀ t : Nat, t < i → n ≠ 2 ^ t) ∧ (∃ q : Int, Ev ρ 3 (.int .u64 q) ∧ (i < 64 → q = 2 ^ i)) ∧ Ev ρ 0 (.int .u64 n) ∧ Ev ρ 4 (.int .i64 (i : Int))) ⟨rfl, rfl, fun t h => by omega, ⟨1, inferInstance, fun _ => rfl⟩, inferInstance, inferInstance⟩ ?_
 rintro i ρ ds L' hi ⟨rfl, rfl, hg, ⟨q, e3, hq⟩, e0, e4⟩
 by_cases hlt : i < 64
 ·have hq1 := hq hlt
  have hit : q = n → ((0 ≤ (i : Int) ∧ (i : Int) ≤ 8) ↔ isMult n) := fun h => by
   rw [← h, hq1, isMult_pow]; omega
  have nxt : ¬ q = n → ∀ t : Nat, t < i + 1 → n ≠ 2 ^ t := fun h => all_step hg (fun e => h (by rw [hq1, e]))
  have hq2 : i + 1 < 64 → q * 2 = 2 ^ (i + 1) := fun _ => by rw [hq1, Int.pow_succ]
  have hb : i + 1 < 64 → 0 ≤ q ∧ q ≤ 4611686018427387904 := fun h => by
   have := pow_le (show i ≤ 62 by omega)
   have e : (2 : Int) ^ 62 = 4611686018427387904 := by decide
   have h0 : (0 : Int) ≤ 2 ^ i := Int.pow_nonneg (by decide)
   rw [hq1]; omega
  clear hq hq1
  by_cases hl2 : i + 1 < 64
  ·have hb' := hb hl2
   obtain ⟨b1, b2⟩ := hb'
   repeat' (first|refine Ga0 fun _=>?_|refine Ga1 ?_|refine Ga2 (fun _=>?_) fun _=>?_|refine Ga3 ?_|refine Ga4 fun _=>?_|fail)
   ·exact bodyK.retD L' (Res.one Tryz.results159) ⟨⟨_, rfl, hit (by assumption), by omega, by omega⟩, rfl⟩
   ·exact ⟨hlt, rfl, rfl, nxt (by assumption), ⟨_, inferInstance, hq2⟩, inferInstance, by rw [Int.natCast_add]; infer_instance⟩
  ·repeat' (first|refine Ga0 fun _=>?_|refine Ga1 ?_|refine Ga2 (fun _=>?_) fun _=>?_|refine Ga3 ?_|refine Ga4 fun _=>?_|fail)
   ·exact bodyK.retD L' (Res.one Tryz.results159) ⟨⟨_, rfl, hit (by assumption), by omega, by omega⟩, rfl⟩
   ·exact ⟨hlt, rfl, rfl, nxt (by assumption), ⟨_, inferInstance, fun h => absurd h hl2⟩, inferInstance, by rw [Int.natCast_add]; infer_instance⟩
 ·obtain rfl : i = 64 := by omega
  have hno : ((0 ≤ (-1 : Int) ∧ (-1 : Int) ≤ 8) ↔ isMult n) := ⟨fun h => by omega, fun h => by
   obtain ⟨i, h1, h2⟩ := isMult_is h
   exact absurd h2 (hg i (by omega))⟩
  repeat' (first|refine Ga0 fun _=>?_|refine Ga1 ?_|refine Ga2 (fun _=>?_) fun _=>?_|refine Ga3 ?_|refine Ga4 fun _=>?_|fail)
  exact bodyK.retD L' (Res.one Tryz.results159) ⟨⟨_, rfl, hno, by decide, by decide⟩, rfl⟩
theorem rPayload (k : Int) (hk : 0 ≤ k ∧ k < 8) (L : Chunk) : Fn1 Tryz.prog 161 [.int .i64 k] L (fun u L' => u = .int .i64 (pay k) ∧ L = L') := by
 obtain ⟨k1, k2⟩ := hk
 have h : k = 0 ∨ k = 1 ∨ k = 2 ∨ k = 3 ∨ k = 4 ∨ k = 5 ∨ k = 6 ∨ k = 7 := by omega
 intro w0; refine Spec.enter1 Tryz.func161 rfl Tryz.ntmps161 (by decide) ?_
 rcases h with rfl | rfl | rfl | rfl | rfl | rfl | rfl | rfl
 all_goals repeat' (first|refine Ga0 fun _=>?_|refine Ga1 ?_|refine Ga2 (fun _=>?_) fun _=>?_|refine Ga3 ?_|refine Ga4 fun _=>?_|fail)
 all_goals exact bodyK.retD L (Res.one Tryz.results161) ⟨rfl, rfl⟩
theorem cls_hit {n : Int} {i : Nat} (hi : i < 8) (h : n ≤ pay i) (hl : ∀ t : Nat, t < i → ¬ n ≤ pay t) : clsOf n = i := by
 match i, hi with
 | 0, _ => simp only [pay] at h; unfold clsOf; simp at h; rw [if_pos h]; rfl
 | 1, _ =>
  have g0 := hl 0 (by omega)
  simp [pay] at h g0
  unfold clsOf
  rw [if_neg (by omega), if_pos (by omega)]; rfl
 | 2, _ =>
  have g0 := hl 1 (by omega)
  simp [pay] at h g0
  unfold clsOf
  rw [if_neg (by omega), if_neg (by omega), if_pos (by omega)]; rfl
 | 3, _ =>
  have g0 := hl 2 (by omega)
  simp [pay] at h g0
  unfold clsOf
  rw [if_neg (by omega), if_neg (by omega), if_neg (by omega), if_pos (by omega)]; rfl
 | 4, _ =>
  have g0 := hl 3 (by omega)
  simp [pay] at h g0
  unfold clsOf
  rw [if_neg (by omega), if_neg (by omega), if_neg (by omega), if_neg (by omega), if_pos (by omega)]; rfl
 | 5, _ =>
  have g0 := hl 4 (by omega)
  simp [pay] at h g0
  unfold clsOf
  rw [if_neg (by omega), if_neg (by omega), if_neg (by omega), if_neg (by omega), if_neg (by omega), if_pos (by omega)]; rfl
 | 6, _ =>
  have g0 := hl 5 (by omega)
  simp [pay] at h g0
  unfold clsOf
  rw [if_neg (by omega), if_neg (by omega), if_neg (by omega), if_neg (by omega), if_neg (by omega), if_neg (by omega), if_pos (by omega)]; rfl
 | 7, _ =>
  have g0 := hl 6 (by omega)
  simp [pay] at h g0
  unfold clsOf
  rw [if_neg (by omega), if_neg (by omega), if_neg (by omega), if_neg (by omega), if_neg (by omega), if_neg (by omega), if_neg (by omega)]; rfl
theorem rClass (n : Int) (hn : 0 ≤ n) (L : Chunk) : Fn1 Tryz.prog 160 [.int .i64 n] L (fun u L' => u = .int .i64 (if n ≤ 256 then clsOf n else -1) ∧ L = L') := by
 intro w0; refine Spec.enter1 Tryz.func160 rfl Tryz.ntmps160 (by decide) ?_
 repeat' (first|refine Ga0 fun _=>?_|refine Ga1 ?_|refine Ga2 (fun _=>?_) fun _=>?_|refine Ga3 ?_|refine Ga4 fun _=>?_|fail)
 refine CW.count 8 (fun i ρ ds L' => ds = [] ∧ L' = L ∧ (∀ t : Nat, t < i → ¬ n ≤ pay t) ∧ Ev ρ 0 (.int .i64 n) ∧ Ev ρ 3 (.int .i64 (i : Int))) ⟨rfl, rfl, fun t h => by omega, inferInstance, inferInstance⟩ ?_
 rintro i ρ ds L' hi ⟨rfl, rfl, hg, e0, e3⟩
 by_cases hlt : i < 8
 ·have hit : n ≤ pay i → (i : Int) = if n ≤ 256 then clsOf n else -1 := fun h => by
   have := pay_pos i
   rw [if_pos (by omega), cls_hit hlt h hg]
  have nxt : ¬ n ≤ pay i → ∀ t : Nat, t < i + 1 → ¬ n ≤ pay t := fun h => all_step hg h
  repeat' (first|refine Ga0 fun _=>?_|refine Ga1 ?_|refine Ga2 (fun _=>?_) fun _=>?_|refine Ga3 ?_|refine Ga4 fun _=>?_|fail)
  refine OW.call (rPayload i (by omega) _) ?_
  rintro _ _ ⟨rfl, rfl⟩
  generalize pay i = q at *
  repeat' (first|refine Ga0 fun _=>?_|refine Ga1 ?_|refine Ga2 (fun _=>?_) fun _=>?_|refine Ga3 ?_|refine Ga4 fun _=>?_|fail)
  ·exact bodyK.retD L' (Res.one Tryz.results160) ⟨by rw [hit (by assumption)], rfl⟩
  ·exact ⟨hlt, rfl, rfl, nxt (by assumption), inferInstance, by rw [Int.natCast_add]; infer_instance⟩
 ·obtain rfl : i = 8 := by omega
  have h7 : ¬ n ≤ 256 := hg 7 (by omega)
  rw [if_neg h7]
  repeat' (first|refine Ga0 fun _=>?_|refine Ga1 ?_|refine Ga2 (fun _=>?_) fun _=>?_|refine Ga3 ?_|refine Ga4 fun _=>?_|fail)
  exact bodyK.retD L' (Res.one Tryz.results160) ⟨rfl, rfl⟩
end Go.Proofs.YtmnhooepaemlcaaGreat

namespace Go.Proofs.YtmnhooepaemlcaaGreat
open Go Go.Pw Go.Pw.Sc Go.Pw.Md
set_option maxRecDepth 100000
set_option maxHeartbeats 4000000
set_option synthInstance.maxHeartbeats 400000
set_option synthInstance.maxSize 2000
attribute [local irreducible] CW OW RW thenK blockK
attribute [local irreducible] scopeK loopK TRW ATW
theorem rSize (size mult : Int) (h : 0 ≤ size ∧ size ≤ 18446744073709551615) (L : Chunk) : Fn1 Tryz.prog 117 [.int .u64 size, .int .u64 mult] L (fun u L' => u = needV (needOf size mult) ∧ L = L') := by
 obtain ⟨h1, h2⟩ := h
 intro w0; refine Spec.enter2 Tryz.func117 rfl Tryz.ntmps117 (by decide) ?_
 repeat' (first|refine Ga0 fun _=>?_|refine Ga1 ?_|refine Ga2 (fun _=>?_) fun _=>?_|refine Ga3 ?_|refine Ga4 fun _=>?_|fail)
 rename_i b4
 refine OW.call (rLog mult _) ?_
 rintro _ _ ⟨⟨j, rfl, hj, j1, j2⟩, rfl⟩
 by_cases hbad : 262144 < size ∨ ¬ isMult mult
 ·have e : needOf size mult = none := by unfold needOf; rw [if_pos hbad]
  rw [e]
  have hbad' : 262144 < size ∨ j < 0 ∨ 8 < j := by
   rcases hbad with h | h
   ·exact .inl h
   ·rcases Classical.em (0 ≤ j ∧ j ≤ 8) with h3 | h3
    ·exact absurd (hj.1 h3) h
    ·right; omega
  clear hbad hj
  repeat' (first|refine Ga0 fun _=>?_|refine Ga1 ?_|refine Ga2 (fun _=>?_) fun _=>?_|refine Ga3 ?_|refine Ga4 fun _=>?_|fail)
  all_goals first
   | exact bodyK.retD L (Res.of2 Tryz.results117) ⟨rfl, rfl⟩
   | (exfalso; omega)
 ·have hm : isMult mult := by rcases Classical.em (isMult mult) with h | h; exact h; exact absurd (.inr h) hbad
  have hs : size ≤ 262144 := by omega
  have hj1 := hj.2 hm
  obtain ⟨j3, j4⟩ := hj1
  have en : needOf size mult = if max 1 size ≤ 256 ∧ mult ≤ 16 then some ⟨true, clsOf (max 1 size), 0, pay (clsOf (max 1 size))⟩ else some ⟨false, 0, (max 1 size + 255) / 256, (max 1 size + 255) / 256 * 256⟩ := by unfold needOf; rw [if_neg hbad]
  clear hbad hj
  have n1 : 1 ≤ max 1 size := by omega
  have n2 : max 1 size ≤ 262144 := by omega
  repeat' (first|refine Ga0 fun _=>?_|refine Ga1 ?_|refine Ga2 (fun _=>?_) fun _=>?_|refine Ga3 ?_|refine Ga4 fun _=>?_|fail)
  generalize max 1 size = n at *
  refine OW.call (rClass n (by omega) _) ?_
  rintro _ _ ⟨rfl, rfl⟩
  have hc := clsOf_range n
  obtain ⟨c1, c2⟩ := hc
  by_cases hb : n ≤ 256 ∧ mult ≤ 16
  ·obtain ⟨g1, g2⟩ := hb
   rw [if_pos g1]
   rw [en, if_pos ⟨g1, g2⟩]
   clear en
   have hp := pay_pos (clsOf n)
   generalize hcc : clsOf n = c at *
   repeat' (first|refine Ga0 fun _=>?_|refine Ga1 ?_|refine Ga2 (fun _=>?_) fun _=>?_|refine Ga3 ?_|refine Ga4 fun _=>?_|fail)
   refine OW.call (rPayload c ⟨c1, by omega⟩ _) ?_
   rintro _ _ ⟨rfl, rfl⟩
   repeat' (first|refine Ga0 fun _=>?_|refine Ga1 ?_|refine Ga2 (fun _=>?_) fun _=>?_|refine Ga3 ?_|refine Ga4 fun _=>?_|fail)
   exact bodyK.retD L (Res.of2 Tryz.results117) ⟨rfl, rfl⟩
  ·rw [en, if_neg hb]
   clear en
   have hcb : (if n ≤ 256 then clsOf n else -1) < 0 ∨ 16 < mult := by
    split <;> omega
   have hcr : -1 ≤ (if n ≤ 256 then clsOf n else -1) ∧ (if n ≤ 256 then clsOf n else -1) ≤ 7 := by
    split <;> omega
   generalize (if n ≤ 256 then clsOf n else -1) = cv at *
   by_cases hcv : 0 ≤ cv
   all_goals (
    repeat' (first|refine Ga0 fun _=>?_|refine Ga1 ?_|refine Ga2 (fun _=>?_) fun _=>?_|refine Ga3 ?_|refine Ga4 fun _=>?_|fail)
    refine CW.count 1024 (fun i ρ ds L' => ds = [] ∧ L' = (b4, .cells #[.bool false, .int .i64 0, .int .i64 0, .int .i64 0] 232 (0, 0)) :: L ∧ (i : Int) * 256 < n ∧ Ev ρ 4 (.pointer (some ⟨b4, 0, none⟩)) ∧ Ev ρ 7 (.int .i64 n) ∧ Ev ρ 9 (.int .i64 ((i : Int) + 1))) ⟨rfl, rfl, by omega, inferInstance, inferInstance, (show Ev _ 9 (.int .i64 1) from inferInstance)⟩ ?_
    rintro i ρ ds L' hi ⟨rfl, rfl, hg, e4, e7, e9⟩
    by_cases hlt : ((i : Int) + 1) * 256 < n
    ·repeat' (first|refine Ga0 fun _=>?_|refine Ga1 ?_|refine Ga2 (fun _=>?_) fun _=>?_|refine Ga3 ?_|refine Ga4 fun _=>?_|fail)
     exact ⟨by omega, rfl, rfl, by omega, inferInstance, inferInstance, by rw [Int.natCast_add]; infer_instance⟩
    ·repeat' (first|refine Ga0 fun _=>?_|refine Ga1 ?_|refine Ga2 (fun _=>?_) fun _=>?_|refine Ga3 ?_|refine Ga4 fun _=>?_|fail)
     refine bodyK.retD L (Res.of2 Tryz.results117) ⟨?_, rfl⟩
     have e1 : (n + 255) / 256 = (i : Int) + 1 := by omega
     simp only [needV]
     rw [e1, Int.mul_comm])
theorem rTimes (a b : Int) (ha : 0 ≤ a ∧ a ≤ 18446744073709551615) (hb : 0 ≤ b ∧ b ≤ 18446744073709551615) (L : Chunk) : Fn1 Tryz.prog 197 [.int .u64 a, .int .u64 b] L (fun u L' => u = (if 18446744073709551615 < a * b then .tuple #[.int .u64 0, .bool false] else .tuple #[.int .u64 (a * b), .bool true]) ∧ L = L') := by
 obtain ⟨a1, a2⟩ := ha
 obtain ⟨b1, b2⟩ := hb
 have h0 : 0 ≤ a * b := Int.mul_nonneg a1 b1
 intro w0; refine Spec.enter2 Tryz.func197 rfl Tryz.ntmps197 (by decide) ?_
 by_cases hz : a = 0
 ·subst hz
  rw [if_neg (by rw [Int.zero_mul]; decide)]
  have hz2 : (0 : Int) * b = 0 := Int.zero_mul b
  repeat' (first|refine Gb0 fun _=>?_|refine Gb1 ?_|refine Gb2 (fun _=>?_) fun _=>?_|refine Gb3 ?_|refine Gb4 fun _=>?_|fail)
  exact bodyK.retD L (Res.of2 Tryz.results197) ⟨rfl, rfl⟩
 ·have ha0 : 0 < a := by omega
  have hd : 18446744073709551615 / a < b ↔ 18446744073709551615 < a * b := by rw [Int.ediv_lt_iff_lt_mul ha0, Int.mul_comm]
  by_cases hc : 18446744073709551615 < a * b
  ·rw [if_pos hc]
   have hd1 := hd.2 hc
   clear hd
   repeat' (first|refine Gb0 fun _=>?_|refine Gb1 ?_|refine Gb2 (fun _=>?_) fun _=>?_|refine Gb3 ?_|refine Gb4 fun _=>?_|fail)
   exact bodyK.retD L (Res.of2 Tryz.results197) ⟨rfl, rfl⟩
  ·rw [if_neg hc]
   have hd1 : ¬ 18446744073709551615 / a < b := fun h => hc (hd.1 h)
   clear hd
   repeat' (first|refine Gb0 fun _=>?_|refine Gb1 ?_|refine Gb2 (fun _=>?_) fun _=>?_|refine Gb3 ?_|refine Gb4 fun _=>?_|fail)
   exact bodyK.retD L (Res.of2 Tryz.results197) ⟨rfl, rfl⟩
end Go.Proofs.YtmnhooepaemlcaaGreat

namespace Go.Proofs.YtmnhooepaemlcaaGreat
open Go Go.Pw Go.Pw.Sc Go.Pw.Md
set_option maxRecDepth 100000
set_option maxHeartbeats 4000000
set_option synthInstance.maxHeartbeats 400000
set_option synthInstance.maxSize 2000
attribute [local irreducible] CW OW RW thenK blockK
attribute [local irreducible] scopeK loopK TRW ATW
theorem rMul (a b : Int) (ha : 0 ≤ a ∧ a ≤ 18446744073709551615) (hb : 0 ≤ b ∧ b ≤ 18446744073709551615) (bk cap : Nat) (hcap : 2 ≤ cap) (L : Chunk) [hin : InC L bk (.cells #[.int .u64 a, .int .u64 b] 47 (0, 0))] :
  Fn1 Tryz.prog 164 [.slice (some ⟨bk, 0, none⟩) 2 cap] L (fun u L' => u = (if 18446744073709551615 < a * b then .tuple #[.int .u64 0, .int .i64 120] else .tuple #[.int .u64 (a * b), .int .i64 0]) ∧ L = L') := by
 have ha' := ha
 have hb' := hb
 obtain ⟨a1, a2⟩ := ha
 obtain ⟨b1, b2⟩ := hb
 have h0 : 0 ≤ a * b := Int.mul_nonneg a1 b1
 intro w0; refine Spec.enter1 Tryz.func164 rfl Tryz.ntmps164 (by decide) ?_
 repeat' (first|refine Ga0 fun _=>?_|refine Ga1 ?_|refine Ga2 (fun _=>?_) fun _=>?_|refine Ga3 ?_|refine Ga4 fun _=>?_|fail)
 refine CW.count 2 (fun i ρ ds L' => ds = [] ∧ L' = L ∧ (0 < i → a ≠ 0) ∧ (1 < i → b ≠ 0) ∧ Ev ρ 0 (.slice (some ⟨bk, 0, none⟩) 2 cap) ∧ Ev ρ 4 (.int .i64 (i : Int))) ⟨rfl, rfl, fun h => by omega, fun h => by omega, inferInstance, inferInstance⟩ ?_
 rintro i ρ ds L' hi ⟨rfl, rfl, hga, hgb, e0, e4⟩
 have hz : a = 0 ∨ b = 0 → (if 18446744073709551615 < a * b then .tuple #[.int .u64 0, .int .i64 120] else .tuple #[.int .u64 (a * b), .int .i64 0]) = Value.tuple #[.int .u64 0, .int .i64 0] := fun h => by
  have : a * b = 0 := by rcases h with rfl | rfl <;> simp
  rw [this]; rfl
 match i, hi with
 | 0, _ =>
  have e4' : Ev ρ 4 (.int .i64 0) := e4
  clear e4
  by_cases hz1 : a = 0
  ·rw [hz (.inl hz1)]
   repeat' (first|refine Ga0 fun _=>?_|refine Ga1 ?_|refine Ga2 (fun _=>?_) fun _=>?_|refine Ga3 ?_|refine Ga4 fun _=>?_|fail)
   exact bodyK.retD L' (Res.of2 Tryz.results164) ⟨rfl, rfl⟩
  ·repeat' (first|refine Ga0 fun _=>?_|refine Ga1 ?_|refine Ga2 (fun _=>?_) fun _=>?_|refine Ga3 ?_|refine Ga4 fun _=>?_|fail)
   exact ⟨by omega, rfl, rfl, fun _ => hz1, fun h => by omega, inferInstance, (show Ev _ 4 (.int .i64 1) from inferInstance)⟩
 | 1, _ =>
  have e4' : Ev ρ 4 (.int .i64 1) := e4
  clear e4
  by_cases hz1 : b = 0
  ·rw [hz (.inr hz1)]
   repeat' (first|refine Ga0 fun _=>?_|refine Ga1 ?_|refine Ga2 (fun _=>?_) fun _=>?_|refine Ga3 ?_|refine Ga4 fun _=>?_|fail)
   exact bodyK.retD L' (Res.of2 Tryz.results164) ⟨rfl, rfl⟩
  ·repeat' (first|refine Ga0 fun _=>?_|refine Ga1 ?_|refine Ga2 (fun _=>?_) fun _=>?_|refine Ga3 ?_|refine Ga4 fun _=>?_|fail)
   exact ⟨by omega, rfl, rfl, fun _ => hga (by omega), fun _ => hz1, inferInstance, (show Ev _ 4 (.int .i64 2) from inferInstance)⟩
 | 2, _ =>
  have e4' : Ev ρ 4 (.int .i64 2) := e4
  clear e4 hz
  repeat' (first|refine Ga0 fun _=>?_|refine Ga1 ?_|refine Ga2 (fun _=>?_) fun _=>?_|refine Ga3 ?_|refine Ga4 fun _=>?_|fail)
  refine CW.count 2 (fun i ρ ds L'' => ds = [] ∧ L'' = L' ∧ (i = 2 → ¬ 18446744073709551615 < a * b) ∧ Ev ρ 0 (.slice (some ⟨bk, 0, none⟩) 2 cap) ∧ Ev ρ 6 (.int .i64 (i : Int)) ∧ Ev ρ 5 (.int .u64 (if i = 0 then 1 else if i = 1 then a else a * b))) ⟨rfl, rfl, fun h => by omega, inferInstance, inferInstance, (show Ev _ 5 (.int .u64 1) from inferInstance)⟩ ?_
  clear e4' e0
  rintro i ρ ds L'' hi ⟨rfl, rfl, hg2, e0, e6, e5⟩
  match i, hi with
  | 0, _ =>
   have e6' : Ev ρ 6 (.int .i64 0) := e6
   have e5' : Ev ρ 5 (.int .u64 1) := e5
   clear e6 e5
   repeat' (first|refine Ga0 fun _=>?_|refine Ga1 ?_|refine Ga2 (fun _=>?_) fun _=>?_|refine Ga3 ?_|refine Ga4 fun _=>?_|fail)
   refine OW.call (rTimes 1 a (by decide) ha' _) ?_
   intro u L2 hu
   rw [Int.one_mul, if_neg (by omega)] at hu
   obtain ⟨rfl, rfl⟩ := hu
   repeat' (first|refine Ga0 fun _=>?_|refine Ga1 ?_|refine Ga2 (fun _=>?_) fun _=>?_|refine Ga3 ?_|refine Ga4 fun _=>?_|fail)
   exact ⟨by omega, rfl, rfl, fun h => by omega, inferInstance, (show Ev _ 6 (.int .i64 1) from inferInstance), (show Ev _ 5 (.int .u64 a) from inferInstance)⟩
  | 1, _ =>
   have e6' : Ev ρ 6 (.int .i64 1) := e6
   have e5' : Ev ρ 5 (.int .u64 a) := e5
   clear e6 e5
   repeat' (first|refine Ga0 fun _=>?_|refine Ga1 ?_|refine Ga2 (fun _=>?_) fun _=>?_|refine Ga3 ?_|refine Ga4 fun _=>?_|fail)
   refine OW.call (rTimes a b ha' hb' _) ?_
   intro u L2 hu
   by_cases hc : 18446744073709551615 < a * b
   ·rw [if_pos hc] at hu
    obtain ⟨rfl, rfl⟩ := hu
    rw [if_pos hc]
    repeat' (first|refine Ga0 fun _=>?_|refine Ga1 ?_|refine Ga2 (fun _=>?_) fun _=>?_|refine Ga3 ?_|refine Ga4 fun _=>?_|fail)
    exact bodyK.retD L'' (Res.of2 Tryz.results164) ⟨rfl, rfl⟩
   ·rw [if_neg hc] at hu
    obtain ⟨rfl, rfl⟩ := hu
    repeat' (first|refine Ga0 fun _=>?_|refine Ga1 ?_|refine Ga2 (fun _=>?_) fun _=>?_|refine Ga3 ?_|refine Ga4 fun _=>?_|fail)
    exact ⟨by omega, rfl, rfl, fun _ => hc, inferInstance, (show Ev _ 6 (.int .i64 2) from inferInstance), (show Ev _ 5 (.int .u64 (a * b)) from inferInstance)⟩
  | 2, _ =>
   have e6' : Ev ρ 6 (.int .i64 2) := e6
   have e5' : Ev ρ 5 (.int .u64 (a * b)) := e5
   clear e6 e5
   rw [if_neg (hg2 rfl)]
   repeat' (first|refine Ga0 fun _=>?_|refine Ga1 ?_|refine Ga2 (fun _=>?_) fun _=>?_|refine Ga3 ?_|refine Ga4 fun _=>?_|fail)
   exact bodyK.retD L'' (Res.of2 Tryz.results164) ⟨rfl, rfl⟩
theorem rTotal (a b : Int) (ha : 0 ≤ a ∧ a ≤ 18446744073709551615) (hb : 0 ≤ b ∧ b ≤ 18446744073709551615) (L : Chunk) : Fn1 Tryz.prog 120 [.int .u64 a, .int .u64 b] L (fun u L' => u = totalV (total a b) ∧ L = L') := by
 have h0 : 0 ≤ a * b := Int.mul_nonneg ha.1 hb.1
 intro w0; refine Spec.enter2 Tryz.func120 rfl Tryz.ntmps120 (by decide) ?_
 repeat' (first|refine Ga0 fun _=>?_|refine Ga1 ?_|refine Ga2 (fun _=>?_) fun _=>?_|refine Ga3 ?_|refine Ga4 fun _=>?_|fail)
 refine OW.call (rMul a b ha hb _ _ (Nat.le_refl _) _) ?_
 rintro _ _ ⟨rfl, rfl⟩
 by_cases h1 : 18446744073709551615 < a * b
 ·have e : total a b = none := by unfold total; rw [if_pos (by omega)]
  rw [e, if_pos h1]
  repeat' (first|refine Ga0 fun _=>?_|refine Ga1 ?_|refine Ga2 (fun _=>?_) fun _=>?_|refine Ga3 ?_|refine Ga4 fun _=>?_|fail)
  exact bodyK.retD L (Res.of2 Tryz.results120) ⟨rfl, rfl⟩
 ·rw [if_neg h1]
  by_cases h2 : 262144 < a * b
  ·have e : total a b = none := by unfold total; rw [if_pos h2]
   rw [e]
   repeat' (first|refine Ga0 fun _=>?_|refine Ga1 ?_|refine Ga2 (fun _=>?_) fun _=>?_|refine Ga3 ?_|refine Ga4 fun _=>?_|fail)
   exact bodyK.retD L (Res.of2 Tryz.results120) ⟨rfl, rfl⟩
  ·have e : total a b = some (a * b) := by unfold total; rw [if_neg h2]
   rw [e]
   repeat' (first|refine Ga0 fun _=>?_|refine Ga1 ?_|refine Ga2 (fun _=>?_) fun _=>?_|refine Ga3 ?_|refine Ga4 fun _=>?_|fail)
   exact bodyK.retD L (Res.of2 Tryz.results120) ⟨rfl, rfl⟩
end Go.Proofs.YtmnhooepaemlcaaGreat
