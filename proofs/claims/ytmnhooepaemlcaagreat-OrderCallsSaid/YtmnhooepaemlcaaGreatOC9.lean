/- OrderCalls: true for every input; arguments as before. Part 9. Conditions: none. -/
import Derived.Test.YtmnhooepaemlcaaGreatOC2
import Derived.Test.YtmnhooepaemlcaaGreatOC3
import Derived.Test.YtmnhooepaemlcaaGreatOC4
set_option linter.all false
namespace Go.Proofs.YtmnhooepaemlcaaGreat
open Go Go.Pw Go.Pw.Sc Go.Pw.Md
set_option maxRecDepth 100000
set_option maxHeartbeats 4000000
set_option synthInstance.maxHeartbeats 400000
set_option synthInstance.maxSize 2000
attribute [local irreducible] CW OW RW thenK blockK
attribute [local irreducible] scopeK loopK TRW ATW
theorem take_step {α : Type} {l : List α} {i : Nat} (h : i < l.length) : l.take (i + 1) = l.take i ++ [l[i]] := by rw [List.take_add_one, List.getElem?_eq_getElem h]; rfl
theorem cut4 {l : List Value} {k : Nat} {a b c d : Value} (h : CutL l k 4 [a, b, c, d]) : NthL l k a ∧ NthL l (k + 1) b ∧ NthL l (k + 2) c ∧ NthL l (k + 3) d :=
 ⟨(cutSub h 0 1 (by decide)).nth rfl, (cutSub h 1 1 (by decide)).nth rfl, (cutSub h 2 1 (by decide)).nth rfl, (cutSub h 3 1 (by decide)).nth rfl⟩
theorem rFind (m : Mod) (v : Value) (a : Int) (ha : inR .u32 a) (L : Chunk) (hl : RL L v m.L) : Fn1 Tryz.prog 122 [mV m v, .int .u32 a] L (fun u L' => (∃ j, u = .int .i64 j ∧ PlR (fun p => p.ad = a) m.L j) ∧ L = L') := by
 have hn := hl.len
 obtain ⟨av, cv, rfl⟩ := hl.slice
 intro w0; refine Spec.enter2 Tryz.func122 rfl Tryz.ntmps122 (by decide) ?_
 repeat' (first|refine Ga0 fun _=>?_|refine Ga1 ?_|refine Ga2 (fun _=>?_) fun _=>?_|refine Ga3 ?_|refine Ga4 fun _=>?_|fail)
 rename_i b2
 refine CW.count m.L.length (fun i ρ ds L' => ds = [] ∧ L' = (b2, .cells #[.int .i64 m.slot, .int .i64 m.quota, .slice av m.L.length cv] 72 (0, 0)) :: L ∧ (∀ p ∈ m.L.take i, p.ad ≠ a) ∧ Ev ρ 1 (.int .u32 a) ∧ Ev ρ 2 (.pointer (some ⟨b2, 0, none⟩)) ∧ Ev ρ 5 (.int .i64 (i : Int))) ⟨rfl, rfl, by simp, ii, ii, ii⟩ ?_
 rintro i ρ ds L' hi ⟨rfl, rfl, hg, e1, e2, e5⟩
 by_cases hlt : i < m.L.length
 ·obtain ⟨bk, kk, capk, lk, ek, frk, hbe, hbin, hbc, hbn⟩ := hl.open (by omega)
  cases hbe
  obtain ⟨cc, hcut, vB, rfl, hrd⟩ := hbn i hlt
  have sB := hrd.sng
  obtain ⟨n0, n1, n2, n3⟩ := cut4 hcut
  have hts := take_step hlt
  have hpl : m.L[i].ad = a → PlR (fun p => p.ad = a) m.L i := fun h => .inr ⟨i, hlt, rfl, h⟩
  have htk : ¬ m.L[i].ad = a → ∀ p ∈ m.L.take (i + 1), p.ad ≠ a := fun h p hp => by
   rw [hts] at hp
   rcases List.mem_append.1 hp with hp | hp
   ·exact hg p hp
   ·rw [List.mem_singleton.1 hp]; exact h
  generalize m.L[i] = p at *
  repeat' (first|refine Ga0 fun _=>?_|refine Ga1 ?_|refine Ga2 (fun _=>?_) fun _=>?_|refine Ga3 ?_|refine Ga4 fun _=>?_|fail)
  ·exact bodyK.retD L (Res.one Tryz.results122) ⟨⟨_, rfl, hpl (by assumption)⟩, rfl⟩
  ·exact ⟨hlt, rfl, rfl, htk (by assumption), ii, ii, by rw [Int.natCast_add]; infer_instance⟩
 ·obtain rfl : i = m.L.length := by omega
  rw [List.take_length] at hg
  repeat' (first|refine Ga0 fun _=>?_|refine Ga1 ?_|refine Ga2 (fun _=>?_) fun _=>?_|refine Ga3 ?_|refine Ga4 fun _=>?_|fail)
  exact bodyK.retD L (Res.one Tryz.results122) ⟨⟨_, rfl, .inl ⟨rfl, hg⟩⟩, rfl⟩
theorem rIn (m : Mod) (v : Value) (a : Int) (ha : -1 ≤ a ∧ a ≤ 8589934592) (L : Chunk) (hl : RL L v m.L) (hok : ∀ p ∈ m.L, PcOk p) : Fn1 Tryz.prog 68 [mV m v, .int .i64 a] L (fun u L' => (∃ j, u = .int .i64 j ∧ PlR (fun p => p.ad ≤ a ∧ a < p.ad + p.room) m.L j) ∧ L = L') := by
 have hn := hl.len
 obtain ⟨av, cv, rfl⟩ := hl.slice
 obtain ⟨ha1, ha2⟩ := ha
 intro w0; refine Spec.enter2 Tryz.func68 rfl Tryz.ntmps68 (by decide) ?_
 have z4:DrP 4 [0,1,2,3,4,5,6,7,8,9,10,11,12,13,14,15,16,17,18,19,20,21,22,23,24,25,26]:=⟨⟨⟩⟩
 repeat' (first|refine Gi0 fun _=>?_|refine Gi1 ?_|refine Gi2 (fun _=>?_) fun _=>?_|refine Gi3 ?_|refine Gi4 fun _=>?_|fail)
 rename_i b2
 refine CW.count m.L.length (fun i ρ ds L' => ds = [] ∧ L' = (b2, .cells #[.int .i64 m.slot, .int .i64 m.quota, .slice av m.L.length cv] 72 (0, 0)) :: L ∧ (∀ p ∈ m.L.take i, ¬ (p.ad ≤ a ∧ a < p.ad + p.room)) ∧ Ev ρ 1 (.int .i64 a) ∧ Ev ρ 2 (.pointer (some ⟨b2, 0, none⟩)) ∧ Ev ρ 5 (.int .i64 (i : Int))) ⟨rfl, rfl, by simp, ii, ii, ii⟩ ?_
 rintro i ρ ds L' hi ⟨rfl, rfl, hg, e1, e2, e5⟩
 by_cases hlt : i < m.L.length
 ·obtain ⟨bk, kk, capk, lk, ek, frk, hbe, hbin, hbc, hbn⟩ := hl.open (by omega)
  cases hbe
  obtain ⟨cc, hcut, vB, rfl, hrd⟩ := hbn i hlt
  have sB := hrd.sng
  obtain ⟨n0, n1, n2, n3⟩ := cut4 hcut
  have hts := take_step hlt
  have okp := hok _ (List.getElem_mem hlt)
  have o1 := okp.ad
  have o2 := okp.room
  have o3 := okp.fin
  have hpl : m.L[i].ad ≤ a ∧ a < m.L[i].ad + m.L[i].room → PlR (fun p => p.ad ≤ a ∧ a < p.ad + p.room) m.L i := fun h => .inr ⟨i, hlt, rfl, h⟩
  have htk : ¬ (m.L[i].ad ≤ a ∧ a < m.L[i].ad + m.L[i].room) → ∀ p ∈ m.L.take (i + 1), ¬ (p.ad ≤ a ∧ a < p.ad + p.room) := fun h p hp => by
   rw [hts] at hp
   rcases List.mem_append.1 hp with hp | hp
   ·exact hg p hp
   ·rw [List.mem_singleton.1 hp]; exact h
  generalize m.L[i] = p at *
  repeat' (first|refine Gi0 fun _=>?_|refine Gi1 ?_|refine Gi2 (fun _=>?_) fun _=>?_|refine Gi3 ?_|refine Gi4 fun _=>?_|fail)
  all_goals first
   | exact bodyK.retD L (Res.one Tryz.results68) ⟨⟨_, rfl, hpl (by omega)⟩, rfl⟩
   | exact ⟨hlt, rfl, rfl, htk (by omega), ii, ii, by rw [Int.natCast_add]; infer_instance⟩
 ·obtain rfl : i = m.L.length := by omega
  rw [List.take_length] at hg
  repeat' (first|refine Gi0 fun _=>?_|refine Gi1 ?_|refine Gi2 (fun _=>?_) fun _=>?_|refine Gi3 ?_|refine Gi4 fun _=>?_|fail)
  exact bodyK.retD L (Res.one Tryz.results68) ⟨⟨_, rfl, .inl ⟨rfl, hg⟩⟩, rfl⟩
theorem sum_take {l : List Pc} (hok : ∀ p ∈ l, PcOk p) (i : Nat) : 0 ≤ ((l.take i).map Pc.room).sum ∧ ((l.take i).map Pc.room).sum ≤ (l.map Pc.room).sum := by
 have h0 : ∀ l : List Pc, (∀ p ∈ l, PcOk p) → 0 ≤ (l.map Pc.room).sum := by
  intro l
  induction l with
  | nil => intro _; simp
  | cons p l ih =>
   intro h
   have := ih fun q hq => h q (List.mem_cons_of_mem _ hq)
   have := (h p (List.mem_cons_self ..)).room
   simp only [List.map_cons, List.sum_cons]
   omega
 refine ⟨h0 _ fun p hp => hok p (List.mem_of_mem_take hp), ?_⟩
 have e : l.map Pc.room = (l.take i).map Pc.room ++ (l.drop i).map Pc.room := by rw [← List.map_append, List.take_append_drop]
 have := h0 (l.drop i) fun p hp => hok p (List.mem_of_mem_drop hp)
 rw [e, List.sum_append]
 omega
theorem wf_len2 {m : Mod} (h : WF m) : m.L.length ≤ 1073741824 := by
 have key : ∀ l : List Pc, (∀ p ∈ l, PcOk p) → (l.length : Int) ≤ (l.map Pc.room).sum := by
  intro l
  induction l with
  | nil => intro _; simp
  | cons p l ih =>
   intro hok
   have := ih fun q hq => hok q (List.mem_cons_of_mem _ hq)
   have := (hok p (List.mem_cons_self ..)).room
   simp only [List.length_cons, List.map_cons, List.sum_cons]
   omega
 have h1 := key m.L h.ok
 have h2 := h.charge
 have h3 := h.quota1
 unfold Mod.charge at h2
 omega
theorem rCharge (m : Mod) (hwf : WF m) (v : Value) (L : Chunk) (hl : RL L v m.L) : Fn1 Tryz.prog 67 [mV m v] L (fun u L' => u = .int .i64 m.charge ∧ L = L') := by
 have hn := hl.len
 have hc := hwf.charge
 have hq := hwf.quota1
 obtain ⟨av, cv, rfl⟩ := hl.slice
 intro w0; refine Spec.enter1 Tryz.func67 rfl Tryz.ntmps67 (by decide) ?_
 repeat' (first|refine Ga0 fun _=>?_|refine Ga1 ?_|refine Ga2 (fun _=>?_) fun _=>?_|refine Ga3 ?_|refine Ga4 fun _=>?_|fail)
 rename_i b2
 refine CW.count m.L.length (fun i ρ ds L' => ds = [] ∧ L' = (b2, .cells #[.int .i64 m.slot, .int .i64 m.quota, .slice av m.L.length cv] 72 (0, 0)) :: L ∧ Ev ρ 3 (.int .i64 ((m.L.take i).map Pc.room).sum) ∧ Ev ρ 1 (.pointer (some ⟨b2, 0, none⟩)) ∧ Ev ρ 4 (.int .i64 (i : Int))) ⟨rfl, rfl, ii, ii, ii⟩ ?_
 rintro i ρ ds L' hi ⟨rfl, rfl, e3, e1, e4⟩
 have hs := sum_take hwf.ok i
 have hs' := sum_take hwf.ok (i + 1)
 unfold Mod.charge at hc
 by_cases hlt : i < m.L.length
 ·obtain ⟨bk, kk, capk, lk, ek, frk, hbe, hbin, hbc, hbn⟩ := hl.open (by omega)
  cases hbe
  obtain ⟨cc, hcut, vB, rfl, hrd⟩ := hbn i hlt
  have sB := hrd.sng
  obtain ⟨n0, n1, n2, n3⟩ := cut4 hcut
  rw [take_step hlt, List.map_append, List.sum_append, List.map_cons, List.map_nil, List.sum_cons, List.sum_nil, Int.add_zero] at hs'
  have hst : ((m.L.take (i + 1)).map Pc.room).sum = ((m.L.take i).map Pc.room).sum + m.L[i].room := by
   rw [take_step hlt, List.map_append, List.sum_append, List.map_cons, List.map_nil, List.sum_cons, List.sum_nil, Int.add_zero]
  generalize m.L[i] = p at *
  generalize ((m.L.take i).map Pc.room).sum = s at *
  repeat' (first|refine Ga0 fun _=>?_|refine Ga1 ?_|refine Ga2 (fun _=>?_) fun _=>?_|refine Ga3 ?_|refine Ga4 fun _=>?_|fail)
  exact ⟨hlt, rfl, rfl, by rw [hst]; infer_instance, ii, by rw [Int.natCast_add]; infer_instance⟩
 ·obtain rfl : i = m.L.length := by omega
  rw [List.take_length] at e3
  repeat' (first|refine Ga0 fun _=>?_|refine Ga1 ?_|refine Ga2 (fun _=>?_) fun _=>?_|refine Ga3 ?_|refine Ga4 fun _=>?_|fail)
  exact bodyK.retD L (Res.one Tryz.results67) ⟨rfl, rfl⟩
theorem rBytes (n x : Int) (hn : n ≤ 16777216) (L : Chunk) : Fn1 Tryz.prog 121 [.int .i64 n, .int .i64 x] L (fun u L' => ∃ N, L' = N ++ L ∧ Row 3 1 N u n.toNat (iv (List.replicate n.toNat x))) := by
 intro w0; refine Spec.enter2 Tryz.func121 rfl Tryz.ntmps121 (by decide) ?_
 repeat' (first|refine Ga0 fun _=>?_|refine Ga1 ?_|refine Ga2 (fun _=>?_) fun _=>?_|refine Ga3 ?_|refine Ga4 fun _=>?_|fail)
 refine CW.count n.toNat (fun i ρ ds L' => ds = [] ∧ (∃ X N v, L' = X ++ (N ++ L) ∧ Row 3 1 N v i (iv (List.replicate i x)) ∧ Ev ρ 5 v) ∧ Ev ρ 0 (.int .i64 n) ∧ Ev ρ 1 (.int .i64 x) ∧ Ev ρ 6 (.int .i64 (i : Int))) ⟨rfl, ⟨[], [], _, rfl, Row.nil _ _, ii⟩, ii, ii, ii⟩ ?_
 rintro i ρ ds L' hi ⟨rfl, ⟨X, N, v, rfl, hrow, e5⟩, e0, e1, e6⟩
 have sv := hrow.sng
 by_cases hlt : i < n.toNat
 ·repeat' (first|refine Ga0 fun _=>?_|refine Ga1 ?_|refine Ga2 (fun _=>?_) fun _=>?_|refine Ga3 ?_|refine Ga4 fun _=>?_|fail)
  rename_i bt
  refine OW.append hrow ii (Rd.blk (n := 1) (l := [.int .i64 x]) rfl (Nat.le_refl _)) (fun z hz => by rw [List.mem_singleton.1 hz]; infer_instance) (by omega) (fun v' N' hrow' => ?_)
  have sv' := hrow'.sng
  have hrow2 : Row 3 1 N' v' (i + 1) (iv (List.replicate (i + 1) x)) := by
   rw [List.replicate_succ']
   simpa [iv] using hrow'
  repeat' (first|refine Ga0 fun _=>?_|refine Ga1 ?_|refine Ga2 (fun _=>?_) fun _=>?_|refine Ga3 ?_|refine Ga4 fun _=>?_|fail)
  exact ⟨hlt, rfl, ⟨_ :: X, N', v', rfl, hrow2, ii⟩, ii, ii, by rw [Int.natCast_add]; infer_instance⟩
 ·obtain rfl : i = n.toNat := by omega
  repeat' (first|refine Ga0 fun _=>?_|refine Ga1 ?_|refine Ga2 (fun _=>?_) fun _=>?_|refine Ga3 ?_|refine Ga4 fun _=>?_|fail)
  exact bodyK.retD (N ++ L) (Res.one Tryz.results121) ⟨N, rfl, hrow⟩
theorem rBook (s : Int) (hs : 0 ≤ s ∧ s < 4) (L : Chunk) : Fn1 Tryz.prog 198 [.int .i64 s] L (fun u L' => u = .int .i64 (64 * s + 1) ∧ L = L') := by
 obtain ⟨s1, s2⟩ := hs
 intro w0; refine Spec.enter1 Tryz.func198 rfl Tryz.ntmps198 (by decide) ?_
 repeat' (first|refine Ga0 fun _=>?_|refine Ga1 ?_|refine Ga2 (fun _=>?_) fun _=>?_|refine Ga3 ?_|fail)
 exact bodyK.retD L (Res.one Tryz.results198) ⟨rfl, rfl⟩
theorem rBase (s : Int) (hs : 0 ≤ s ∧ s < 4) (L : Chunk) : Fn1 Tryz.prog 200 [.int .i64 s] L (fun u L' => u = .int .i64 (4096 * (s + 1)) ∧ L = L') := by
 obtain ⟨s1, s2⟩ := hs
 intro w0; refine Spec.enter1 Tryz.func200 rfl Tryz.ntmps200 (by decide) ?_
 repeat' (first|refine Ga0 fun _=>?_|refine Ga1 ?_|refine Ga2 (fun _=>?_) fun _=>?_|refine Ga3 ?_|fail)
 exact bodyK.retD L (Res.one Tryz.results200) ⟨rfl, rfl⟩
theorem rRegion (s c : Int) (hs : 0 ≤ s ∧ s < 4) (hc : 0 ≤ c ∧ c < 8) (L : Chunk) : Fn1 Tryz.prog 199 [.int .i64 s, .int .i64 c] L (fun u L' => u = .int .i64 (4096 * (s + 1) + 1 + 17 * c) ∧ L = L') := by
 have hs' := hs
 obtain ⟨s1, s2⟩ := hs
 obtain ⟨c1, c2⟩ := hc
 intro w0; refine Spec.enter2 Tryz.func199 rfl Tryz.ntmps199 (by decide) ?_
 repeat' (first|refine Ga0 fun _=>?_|refine Ga1 ?_|refine Ga2 (fun _=>?_) fun _=>?_|refine Ga3 ?_|fail)
 refine OW.call (rBase s hs' _) ?_
 rintro _ _ ⟨rfl, rfl⟩
 repeat' (first|refine Ga0 fun _=>?_|refine Ga1 ?_|refine Ga2 (fun _=>?_) fun _=>?_|refine Ga3 ?_|fail)
 exact bodyK.retD L (Res.one Tryz.results199) ⟨rfl, rfl⟩
def regIn (s p c : Int) : Prop := 4096 * (s + 1) + 1 + 17 * c ≤ p ∧ p < 4096 * (s + 1) + 1 + 17 * c + 16
theorem kind_book {s p : Int} (h : 64 * s + 1 ≤ p ∧ p < 64 * s + 1 + 48) : slotKind s p = 1 := by unfold slotKind; rw [if_pos (by omega)]
theorem kind_reg {s p : Int} (h : ¬ (64 * s + 1 ≤ p ∧ p < 64 * s + 1 + 48)) {c : Int} (h0 : 0 ≤ c ∧ c < 8) (hr : regIn s p c) : slotKind s p = 2 := by
 unfold regIn at hr
 unfold slotKind
 rw [if_neg (by omega), if_pos (by omega)]
theorem kind_rest {s p : Int} (h : ¬ (64 * s + 1 ≤ p ∧ p < 64 * s + 1 + 48)) (hr : ∀ c : Nat, c < 8 → ¬ regIn s p c) : slotKind s p = if 256 ≤ p - 4096 * (s + 1) ∧ p - 4096 * (s + 1) < 4096 then 3 else if 0 ≤ p - 4096 * (s + 1) ∧ p - 4096 * (s + 1) < 4096 then 4 else 0 := by
 unfold slotKind
 rw [if_neg (by omega), if_neg]
 rintro ⟨h1, h2, h3⟩
 have := hr ((p - 4096 * (s + 1) - 1) / 17).toNat (by omega)
 unfold regIn at this
 omega
theorem site_hit {p : Int} {s : Nat} (hs : s < 4) (h : ∀ t : Nat, t < s → slotKind t p = 0) {k : Int} (hk : slotKind s p = k) (h0 : k ≠ 0) : site p = (k, (s : Int)) := by
 unfold site
 match s, hs with
 | 0, _ =>
  have hk : slotKind 0 p = k := hk
  rw [hk, if_pos h0]; rfl
 | 1, _ =>
  have g0 : slotKind 0 p = 0 := h 0 (by omega)
  have hk : slotKind 1 p = k := hk
  rw [g0, hk, if_neg (by simp), if_pos h0]; rfl
 | 2, _ =>
  have g0 : slotKind 0 p = 0 := h 0 (by omega)
  have g1 : slotKind 1 p = 0 := h 1 (by omega)
  have hk : slotKind 2 p = k := hk
  rw [g0, g1, hk, if_neg (by simp), if_neg (by simp), if_pos h0]; rfl
 | 3, _ =>
  have g0 : slotKind 0 p = 0 := h 0 (by omega)
  have g1 : slotKind 1 p = 0 := h 1 (by omega)
  have g2 : slotKind 2 p = 0 := h 2 (by omega)
  have hk : slotKind 3 p = k := hk
  rw [g0, g1, g2, hk, if_neg (by simp), if_neg (by simp), if_neg (by simp), if_pos h0]; rfl
theorem site_none {p : Int} (h : ∀ t : Nat, t < 4 → slotKind t p = 0) : site p = (0, 0) := by
 have g0 : slotKind 0 p = 0 := h 0 (by omega)
 have g1 : slotKind 1 p = 0 := h 1 (by omega)
 have g2 : slotKind 2 p = 0 := h 2 (by omega)
 have g3 : slotKind 3 p = 0 := h 3 (by omega)
 unfold site
 rw [g0, g1, g2, g3]
 simp
theorem all_step {Q : Nat → Prop} {i : Nat} (h : ∀ t, t < i → Q t) (hi : Q i) : ∀ t, t < i + 1 → Q t := fun t ht => by
 rcases Nat.lt_or_ge t i with h1 | h1
 ·exact h t h1
 ·obtain rfl : t = i := by omega
  exact hi
theorem rSite (p : Int) (hp : 0 ≤ p ∧ p < 65536) (L : Chunk) : Fn1 Tryz.prog 165 [.int .i64 p] L (fun u L' => (∃ c q, u = .tuple #[siteV (site p).1 (site p).2 c q, .int .i64 0]) ∧ L = L') := by
 obtain ⟨p1, p2⟩ := hp
 have fin : ∀ {k s : Int}, site p = (k, s) → ∀ c q, ∃ c' q', (Value.tuple #[siteV k s c q, .int .i64 0]) = .tuple #[siteV (site p).1 (site p).2 c' q', .int .i64 0] := fun h c q => ⟨c, q, by rw [h]⟩
 intro w0; refine Spec.enter1 Tryz.func165 rfl Tryz.ntmps165 (by decide) ?_
 repeat' (first|refine Ga0 fun _=>?_|refine Ga1 ?_|refine Ga2 (fun _=>?_) fun _=>?_|refine Ga3 ?_|refine Ga4 fun _=>?_|fail)
 rename_i b2
 refine CW.count 4 (fun i ρ ds L' => ds = [] ∧ L' = (b2, .cells #[.int .i64 0, .int .i64 0, .int .i64 0, .int .i64 0] 274 (0, 0)) :: L ∧ (∀ t : Nat, t < i → slotKind t p = 0) ∧ Ev ρ 0 (.int .i64 p) ∧ Ev ρ 2 (.pointer (some ⟨b2, 0, none⟩)) ∧ Ev ρ 4 (.int .i64 (i : Int))) ⟨rfl, rfl, fun t h => by omega, ii, ii, ii⟩ ?_
 rintro i ρ ds L' hi ⟨rfl, rfl, hg, e0, e2, e4⟩
 by_cases hlt : i < 4
 ·have hs : 0 ≤ (i : Int) ∧ (i : Int) < 4 := by omega
  repeat' (first|refine Ga0 fun _=>?_|refine Ga1 ?_|refine Ga2 (fun _=>?_) fun _=>?_|refine Ga3 ?_|refine Ga4 fun _=>?_|fail)
  refine OW.call (rBook i hs _) ?_
  rintro _ _ ⟨rfl, rfl⟩
  have hit := fun {k} (hk : slotKind i p = k) (h0 : k ≠ 0) => fin (site_hit hlt hg hk h0)
  have nxt := fun (hk : slotKind i p = 0) => all_step hg hk
  by_cases hbook : 64 * (i : Int) + 1 ≤ p ∧ p < 64 * (i : Int) + 1 + 48
  ·have hb1 := hbook.1
   have hb2 := hbook.2
   repeat' (first|refine Ga0 fun _=>?_|refine Ga1 ?_|refine Ga2 (fun _=>?_) fun _=>?_|refine Ga3 ?_|refine Ga4 fun _=>?_|fail)
   refine OW.call (rBook i hs _) ?_
   rintro _ _ ⟨rfl, rfl⟩
   repeat' (first|refine Ga0 fun _=>?_|refine Ga1 ?_|refine Ga2 (fun _=>?_) fun _=>?_|refine Ga3 ?_|refine Ga4 fun _=>?_|fail)
   refine OW.call (rBook i hs _) ?_
   rintro _ _ ⟨rfl, rfl⟩
   repeat' (first|refine Ga0 fun _=>?_|refine Ga1 ?_|refine Ga2 (fun _=>?_) fun _=>?_|refine Ga3 ?_|refine Ga4 fun _=>?_|fail)
   exact bodyK.retD L (Res.of2 Tryz.results165) ⟨hit (kind_book hbook) (by decide) _ _, rfl⟩
  by_cases hb1 : 64 * (i : Int) + 1 ≤ p
  all_goals (
   repeat' (first|refine Ga0 fun _=>?_|refine Ga1 ?_|refine Ga2 (fun _=>?_) fun _=>?_|refine Ga3 ?_|refine Ga4 fun _=>?_|fail)
   try
    refine OW.call (rBook i hs _) ?_
    rintro _ _ ⟨rfl, rfl⟩
    repeat' (first|refine Ga0 fun _=>?_|refine Ga1 ?_|refine Ga2 (fun _=>?_) fun _=>?_|refine Ga3 ?_|refine Ga4 fun _=>?_|fail)
   refine CW.count 8 (fun j ρ ds L' => ds = [] ∧ L' = (b2, .cells #[.int .i64 0, .int .i64 0, .int .i64 0, .int .i64 0] 274 (0, 0)) :: L ∧ (∀ t : Nat, t < j → ¬ regIn i p t) ∧ Ev ρ 0 (.int .i64 p) ∧ Ev ρ 2 (.pointer (some ⟨b2, 0, none⟩)) ∧ Ev ρ 4 (.int .i64 (i : Int)) ∧ Ev ρ 5 (.int .i64 (j : Int))) ⟨rfl, rfl, fun t h => by omega, ii, ii, ii, ii⟩ ?_
   clear e0 e2 e4
   rintro j ρ ds L' hj ⟨rfl, rfl, hgr, e0, e2, e4, e5⟩
   by_cases hjl : j < 8
   ·have hc : 0 ≤ (j : Int) ∧ (j : Int) < 8 := by omega
    have hin : 4096 * ((i : Int) + 1) + 1 + 17 * (j : Int) ≤ p → p < 4096 * ((i : Int) + 1) + 1 + 17 * (j : Int) + 16 → regIn i p j := fun h1 h2 => ⟨h1, h2⟩
    have hout : ¬ (4096 * ((i : Int) + 1) + 1 + 17 * (j : Int) ≤ p ∧ p < 4096 * ((i : Int) + 1) + 1 + 17 * (j : Int) + 16) → ¬ regIn i p j := fun h1 h2 => h1 h2
    repeat' (first|refine Ga0 fun _=>?_|refine Ga1 ?_|refine Ga2 (fun _=>?_) fun _=>?_|refine Ga3 ?_|refine Ga4 fun _=>?_|fail)
    refine OW.call (rRegion i j hs hc _) ?_
    rintro _ _ ⟨rfl, rfl⟩
    by_cases hr1 : 4096 * ((i : Int) + 1) + 1 + 17 * (j : Int) ≤ p
    ·first | (exfalso; omega) | skip
     all_goals (
      repeat' (first|refine Ga0 fun _=>?_|refine Ga1 ?_|refine Ga2 (fun _=>?_) fun _=>?_|refine Ga3 ?_|refine Ga4 fun _=>?_|fail)
      refine OW.call (rRegion i j hs hc _) ?_
      rintro _ _ ⟨rfl, rfl⟩
      by_cases hr2 : p < 4096 * ((i : Int) + 1) + 1 + 17 * (j : Int) + 16
      ·repeat' (first|refine Ga0 fun _=>?_|refine Ga1 ?_|refine Ga2 (fun _=>?_) fun _=>?_|refine Ga3 ?_|refine Ga4 fun _=>?_|fail)
       refine OW.call (rRegion i j hs hc _) ?_
       rintro _ _ ⟨rfl, rfl⟩
       repeat' (first|refine Ga0 fun _=>?_|refine Ga1 ?_|refine Ga2 (fun _=>?_) fun _=>?_|refine Ga3 ?_|refine Ga4 fun _=>?_|fail)
       exact bodyK.retD L (Res.of2 Tryz.results165) ⟨hit (kind_reg hbook hc (hin hr1 hr2)) (by decide) _ _, rfl⟩
      ·repeat' (first|refine Ga0 fun _=>?_|refine Ga1 ?_|refine Ga2 (fun _=>?_) fun _=>?_|refine Ga3 ?_|refine Ga4 fun _=>?_|fail)
       exact ⟨hjl, rfl, rfl, all_step hgr (hout (by omega)), ii, ii, ii, by rw [Int.natCast_add]; infer_instance⟩)
    ·repeat' (first|refine Ga0 fun _=>?_|refine Ga1 ?_|refine Ga2 (fun _=>?_) fun _=>?_|refine Ga3 ?_|refine Ga4 fun _=>?_|fail)
     exact ⟨hjl, rfl, rfl, all_step hgr (hout (by omega)), ii, ii, ii, by rw [Int.natCast_add]; infer_instance⟩
   ·obtain rfl : j = 8 := by omega
    have hk := kind_rest hbook hgr
    repeat' (first|refine Ga0 fun _=>?_|refine Ga1 ?_|refine Ga2 (fun _=>?_) fun _=>?_|refine Ga3 ?_|refine Ga4 fun _=>?_|fail)
    refine OW.call (rBase i hs _) ?_
    rintro _ _ ⟨rfl, rfl⟩
    by_cases h3 : 256 ≤ p - 4096 * ((i : Int) + 1) ∧ p - 4096 * ((i : Int) + 1) < 4096
    ·rw [if_pos h3] at hk
     first | (exfalso; omega) | skip
     all_goals repeat' (first|refine Ga0 fun _=>?_|refine Ga1 ?_|refine Ga2 (fun _=>?_) fun _=>?_|refine Ga3 ?_|refine Ga4 fun _=>?_|fail)
     all_goals exact bodyK.retD L (Res.of2 Tryz.results165) ⟨hit hk (by decide) _ _, rfl⟩
    ·rw [if_neg h3] at hk
     by_cases h4 : 0 ≤ p - 4096 * ((i : Int) + 1) ∧ p - 4096 * ((i : Int) + 1) < 4096
     ·rw [if_pos h4] at hk
      first | (exfalso; omega) | skip
      all_goals repeat' (first|refine Ga0 fun _=>?_|refine Ga1 ?_|refine Ga2 (fun _=>?_) fun _=>?_|refine Ga3 ?_|refine Ga4 fun _=>?_|fail)
      all_goals exact bodyK.retD L (Res.of2 Tryz.results165) ⟨hit hk (by decide) _ _, rfl⟩
     ·rw [if_neg h4] at hk
      repeat' (first|refine Ga0 fun _=>?_|refine Ga1 ?_|refine Ga2 (fun _=>?_) fun _=>?_|refine Ga3 ?_|refine Ga4 fun _=>?_|fail)
      all_goals exact ⟨hlt, rfl, rfl, nxt hk, ii, ii, by rw [Int.natCast_add]; infer_instance⟩)
 ·obtain rfl : i = 4 := by omega
  repeat' (first|refine Ga0 fun _=>?_|refine Ga1 ?_|refine Ga2 (fun _=>?_) fun _=>?_|refine Ga3 ?_|refine Ga4 fun _=>?_|fail)
  exact bodyK.retD L (Res.of2 Tryz.results165) ⟨fin (site_none hg) _ _, rfl⟩
theorem pc_eq {p q : Pc} (h1 : p.ad = q.ad) (h2 : p.size = q.size) (h3 : p.room = q.room) (h4 : p.b = q.b) : p = q := by
 cases p; cases q; simp_all
theorem lat_sng {L : Chunk} : ∀ {xs : List Value} {ps : List Pc}, LAt 4 (PcR L) xs ps → ∀ v ∈ xs, Sng v
 | xs, [], h => fun v hv => by have : xs = [] := h; subst this; cases hv
 | _, p :: ps, ⟨c, r, e, h0, ⟨vB, h1, hB⟩, h2⟩ => fun v hv => by
  subst e h1
  have := hB.sng
  rcases List.mem_append.1 hv with hv | hv
  ·simp only [pcC, List.mem_cons, List.not_mem_nil, or_false] at hv
   rcases hv with rfl | rfl | rfl | rfl <;> infer_instance
  ·exact lat_sng h2 v hv
theorem rnew {N D L : Chunk} {v : Value} {n : Nat} {xs : List Value} {ps : List Pc} (h : Rd N 4 v n xs) (hn : n = ps.length) (hl : LAt 4 (PcR D) xs ps) (hlen : ps.length ≤ 1073741825) : RNew D L ps v (N ++ L) := by
 subst hn
 have hm : MemC D (N ++ D) := ⟨fun q hq => List.mem_append_right _ hq⟩
 exact ⟨N, rfl, ⟨xs, h.mono fun q hq => List.mem_append_left _ hq, hl.mono fun c a h => PcR.to c a h⟩, by omega⟩
theorem rWithout (m : Mod) (v : Value) (i : Nat) (hi : i < m.L.length) (hlen : m.L.length ≤ 1073741825) (D L : Chunk) [hD : MemC D L] (hl : RL D v m.L) : Fn1 Tryz.prog 123 [mV m v, .int .i64 i] L (fun u L' => ∃ v', u = mV m v' ∧ RNew D L (m.L.take i ++ m.L.drop (i + 1)) v' L') := by
 obtain ⟨xs, hxs, hlat⟩ := hl.rd
 have h1 := hlat.take i
 have h2 := hlat.drop (i + 1)
 have hxl := hlat.length
 obtain ⟨av, cv, rfl⟩ := hl.slice
 have hs1 := hxs.sl (Nat.zero_le i) (Nat.le_of_lt hi)
 have hs2 := hxs.sl (lo := i + 1) (hi := m.L.length) (by omega) (Nat.le_refl _)
 rw [Nat.zero_mul, List.drop_zero, Nat.sub_zero] at hs1
 rw [List.take_of_length_le (by rw [List.length_drop, hxl, Nat.sub_mul]; omega)] at hs2
 have ss1 := hs1.sng
 have ss2 := hs2.sng
 intro w0; refine Spec.enter2 Tryz.func123 rfl Tryz.ntmps123 (by decide) ?_
 have z1:DrC 1 [] [1, 2, 3, 4, 6, 7, 8, 9, 10, 0, 5, 11] 12 [13]:=⟨⟨⟩⟩
 repeat' (first|refine Gi0 fun _=>?_|refine Gi1 ?_|refine Gi2 (fun _=>?_) fun _=>?_|refine Gi3 ?_|refine Gi4 fun _=>?_|fail)
 rename_i b2 b4
 refine RW.slHi (h' := i) (j := (i : Int)) hxs (by omega) ?_
 repeat' (first|refine Gi0 fun _=>?_|refine Gi1 ?_|refine Gi2 (fun _=>?_) fun _=>?_|refine Gi3 ?_|refine Gi4 fun _=>?_|fail)
 refine RW.slLo (l' := i + 1) (j := (i : Int) + 1) (hj := ⟨by omega⟩) hxs (by omega) ?_
 repeat' (first|refine Gi0 fun _=>?_|refine Gi1 ?_|refine Gi2 (fun _=>?_) fun _=>?_|refine Gi3 ?_|refine Gi4 fun _=>?_|fail)
 refine RW.appendE (RowE.empty ..) (At.nil _) hs1.to (lat_sng h1) (by omega) (fun v1 N1 hr1 => pinOld ?_)
 have sv1 := hr1.sng
 repeat' (first|refine Gi0 fun _=>?_|refine Gi1 ?_|refine Gi2 (fun _=>?_) fun _=>?_|refine Gi3 ?_|refine Gi4 fun _=>?_|fail)
 refine RW.appendE hr1 ii hs2.to (lat_sng h2) (by omega) (fun v2 N2 hr2 => pinOld ?_)
 have sv2 := hr2.sng
 repeat' (first|refine Gi0 fun _=>?_|refine Gi1 ?_|refine Gi2 (fun _=>?_) fun _=>?_|refine Gi3 ?_|refine Gi4 fun _=>?_|fail)
 refine bodyK.retD (N2 ++ L) (Res.of1 Tryz.results123) ⟨v2, rfl, ?_⟩
 rw [List.nil_append] at hr2
 exact rnew hr2.rd (by simp; omega) (LAt.append h1 h2) (by simp; omega)
theorem rWith (m : Mod) (v : Value) (p : Pc) (vB : Value) (hlen : m.L.length ≤ 1073741824) (D L : Chunk) [hD : MemC D L] (hl : RL D v m.L) (hB : Rd D 1 vB p.b.length (iv p.b)) : Fn1 Tryz.prog 163 [mV m v, .agg (pcC p vB).toArray] L (fun u L' => ∃ v', u = mV m v' ∧ RNew D L (ins p m.L) v' L') := by
 have hn := hl.len
 have sB := hB.sng
 obtain ⟨av, cv, rfl⟩ := hl.slice
 have hlp : LAt 4 (PcR D) (pcC p vB) [p] := LAt.one rfl ⟨vB, rfl, hB⟩
 intro w0; refine Spec.enter2 Tryz.func163 rfl Tryz.ntmps163 (by decide) ?_
 have z6:DrP 6 [0,1,2,3,4,5,6,7,8,9,10,11,12]:=⟨⟨⟩⟩
 repeat' (first|refine Gi0 fun _=>?_|refine Gi1 ?_|refine Gi2 (fun _=>?_) fun _=>?_|refine Gi3 ?_|refine Gi4 fun _=>?_|fail)
 rename_i b2 b3 b4
 refine CW.count m.L.length (fun i ρ ds L' => ds = [] ∧ (∃ (X N : Chunk) (w : Value) (out : List Pc) (put : Bool) (xs : List Value), L' = X ++ (N ++ ((b4, .cells #[.int .i64 0, .int .i64 0, .slice none 0 0] 72 (0, 0)) :: (b3, .cells #[.int .u32 p.ad, .int .i64 p.size, .int .i64 p.room, vB] 159 (0, 0)) :: (b2, .cells #[.int .i64 m.slot, .int .i64 m.quota, .slice av m.L.length cv] 72 (0, 0)) :: L)) ∧ Row 159 4 N w out.length xs ∧ LAt 4 (PcR D) xs out ∧ out.length ≤ i + 1 ∧ Ev ρ 5 w ∧ Ev ρ 6 (.bool put) ∧
  (put = false → out = m.L.take i ∧ ∀ q ∈ m.L.take i, ¬ p.ad < q.ad) ∧ (put = true → out = ins p (m.L.take i) ∧ ∃ q ∈ m.L.take i, p.ad < q.ad)) ∧ Ev ρ 2 (.pointer (some ⟨b2, 0, none⟩)) ∧ Ev ρ 3 (.pointer (some ⟨b3, 0, none⟩)) ∧ Ev ρ 4 (.pointer (some ⟨b4, 0, none⟩)) ∧ Ev ρ 7 (.int .i64 (i : Int)))
  ⟨rfl, ⟨[], [], _, [], false, [], rfl, Row.nil _ _, rfl, by simp, ii, ii, fun _ => ⟨by simp, by simp⟩, fun h => (by cases h)⟩, ii, ii, ii, ii⟩ ?_
 rintro i ρ ds L' hi ⟨rfl, ⟨X, N, w, out, put, xs, rfl, hrow, hlat, hol, e5, e6, hf, ht⟩, e2, e3, e4, e7⟩
 have sw := hrow.sng
 by_cases hlt : i < m.L.length
 ·obtain ⟨bk, kk, capk, lk, ek, frk, hbe, hbin, hbc, hbn⟩ := hl.open (by omega)
  cases hbe
  have hbin' : InC L bk (.cells lk.toArray ek frk) := ⟨hD.out _ hbin.out⟩
  obtain ⟨cc, hcut, vq, rfl, hrd⟩ := hbn i hlt
  have sq := hrd.sng
  obtain ⟨n0, n1, n2, n3⟩ := cut4 hcut
  have hlq : LAt 4 (PcR D) (pcC m.L[i] vq) [m.L[i]] := LAt.one rfl ⟨vq, rfl, hrd⟩
  have hts := take_step hlt
  have hmem : m.L[i] ∈ m.L.take (i + 1) := by rw [hts]; exact List.mem_append_right _ (List.mem_singleton.2 rfl)
  generalize m.L[i] = q at *
  have hq4 : ∀ z ∈ pcC q vq, Sng z := fun z hz => by
   simp only [pcC, List.mem_cons, List.not_mem_nil, or_false] at hz
   rcases hz with rfl | rfl | rfl | rfl <;> infer_instance
  have hp4 : ∀ z ∈ pcC p vB, Sng z := fun z hz => by
   simp only [pcC, List.mem_cons, List.not_mem_nil, or_false] at hz
   rcases hz with rfl | rfl | rfl | rfl <;> infer_instance
  cases put with
  | true =>
   obtain ⟨ho, hex⟩ := ht rfl
   repeat' (first|refine Gi0 fun _=>?_|refine Gi1 ?_|refine Gi2 (fun _=>?_) fun _=>?_|refine Gi3 ?_|refine Gi4 fun _=>?_|fail)
   rename_i bt
   refine OW.append hrow ii (Rd.blk (n := 1) (l := pcC q vq) rfl (Nat.le_refl _)) hq4 (by omega) (fun w' N' hrow' => ?_)
   have sw' := hrow'.sng
   repeat' (first|refine Gi0 fun _=>?_|refine Gi1 ?_|refine Gi2 (fun _=>?_) fun _=>?_|refine Gi3 ?_|refine Gi4 fun _=>?_|fail)
   refine ⟨hlt, rfl, ⟨_ :: X, N', w', out ++ [q], true, _, rfl, by rw [List.length_append]; exact hrow', LAt.append hlat hlq, by simp; omega, ii, ii, fun h => (by cases h), fun _ => ⟨?_, ?_⟩⟩, ii, ii, ii, by rw [Int.natCast_add]; infer_instance⟩
   ·rw [hts, ins_app hex, ho]
   ·obtain ⟨z, hz, h⟩ := hex
    exact ⟨z, by rw [hts]; exact List.mem_append_left _ hz, h⟩
  | false =>
   obtain ⟨ho, hno⟩ := hf rfl
   have hol' : out.length ≤ i := by rw [ho, List.length_take]; omega
   by_cases hgt : p.ad < q.ad
   ·repeat' (first|refine Gi0 fun _=>?_|refine Gi1 ?_|refine Gi2 (fun _=>?_) fun _=>?_|refine Gi3 ?_|refine Gi4 fun _=>?_|fail)
    rename_i bt
    refine OW.append hrow ii (Rd.blk (n := 1) (l := pcC p vB) rfl (Nat.le_refl _)) hp4 (by omega) (fun w' N' hrow' => ?_)
    have sw' := hrow'.sng
    repeat' (first|refine Gi0 fun _=>?_|refine Gi1 ?_|refine Gi2 (fun _=>?_) fun _=>?_|refine Gi3 ?_|refine Gi4 fun _=>?_|fail)
    rename_i bt2
    refine OW.append hrow' ii (Rd.blk (n := 1) (l := pcC q vq) rfl (Nat.le_refl _)) hq4 (by omega) (fun w2 N2 hrow2 => ?_)
    have sw2 := hrow2.sng
    repeat' (first|refine Gi0 fun _=>?_|refine Gi1 ?_|refine Gi2 (fun _=>?_) fun _=>?_|refine Gi3 ?_|refine Gi4 fun _=>?_|fail)
    refine ⟨hlt, rfl, ⟨_ :: _ :: X, N2, w2, out ++ [p] ++ [q], true, _, rfl, by simpa using hrow2, LAt.append (LAt.append hlat hlp) hlq, by simp; omega, ii, ii, fun h => (by cases h), fun _ => ⟨?_, ⟨q, hmem, hgt⟩⟩⟩, ii, ii, ii, by rw [Int.natCast_add]; infer_instance⟩
    rw [hts, ins_mid hgt hno, ho]
    simp
   ·repeat' (first|refine Gi0 fun _=>?_|refine Gi1 ?_|refine Gi2 (fun _=>?_) fun _=>?_|refine Gi3 ?_|refine Gi4 fun _=>?_|fail)
    rename_i bt
    refine OW.append hrow ii (Rd.blk (n := 1) (l := pcC q vq) rfl (Nat.le_refl _)) hq4 (by omega) (fun w' N' hrow' => ?_)
    have sw' := hrow'.sng
    repeat' (first|refine Gi0 fun _=>?_|refine Gi1 ?_|refine Gi2 (fun _=>?_) fun _=>?_|refine Gi3 ?_|refine Gi4 fun _=>?_|fail)
    refine ⟨hlt, rfl, ⟨_ :: X, N', w', out ++ [q], false, _, rfl, by rw [List.length_append]; exact hrow', LAt.append hlat hlq, by simp; omega, ii, ii, fun _ => ⟨by rw [hts, ho], fun z hz => ?_⟩, fun h => (by cases h)⟩, ii, ii, ii, by rw [Int.natCast_add]; infer_instance⟩
    rw [hts] at hz
    rcases List.mem_append.1 hz with hz | hz
    ·exact hno z hz
    ·rw [List.mem_singleton.1 hz]; exact hgt
 ·obtain rfl : i = m.L.length := by omega
  rw [List.take_length] at hf ht
  cases put with
  | true =>
   obtain ⟨ho, hex⟩ := ht rfl
   repeat' (first|refine Gi0 fun _=>?_|refine Gi1 ?_|refine Gi2 (fun _=>?_) fun _=>?_|refine Gi3 ?_|refine Gi4 fun _=>?_|fail)
   refine bodyK.retD (N ++ L) (Res.of1 Tryz.results163) ⟨w, rfl, ?_⟩
   rw [← ho]
   exact rnew hrow.rd rfl hlat (by omega)
  | false =>
   obtain ⟨ho, hno⟩ := hf rfl
   have hp4 : ∀ z ∈ pcC p vB, Sng z := fun z hz => by
    simp only [pcC, List.mem_cons, List.not_mem_nil, or_false] at hz
    rcases hz with rfl | rfl | rfl | rfl <;> infer_instance
   have hol2 : out.length ≤ 1073741824 := by rw [ho]; exact hlen
   repeat' (first|refine Gi0 fun _=>?_|refine Gi1 ?_|refine Gi2 (fun _=>?_) fun _=>?_|refine Gi3 ?_|refine Gi4 fun _=>?_|fail)
   rename_i bt
   refine OW.append hrow ii (Rd.blk (n := 1) (l := pcC p vB) rfl (Nat.le_refl _)) hp4 (by omega) (fun w' N' hrow' => ?_)
   have sw' := hrow'.sng
   repeat' (first|refine Gi0 fun _=>?_|refine Gi1 ?_|refine Gi2 (fun _=>?_) fun _=>?_|refine Gi3 ?_|refine Gi4 fun _=>?_|fail)
   refine bodyK.retD (N' ++ L) (Res.of1 Tryz.results163) ⟨w', rfl, ?_⟩
   rw [ins_last hno, ← ho]
   exact rnew hrow'.rd (by simp) (LAt.append hlat hlp) (by simp; omega)
end Go.Proofs.YtmnhooepaemlcaaGreat
