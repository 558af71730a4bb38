/- OrderCalls: true for every input; arguments as before. Part 10. Conditions: none. -/
import Derived.Test.YtmnhooepaemlcaaGreatOC2
import Derived.Test.YtmnhooepaemlcaaGreatOC3
import Derived.Test.YtmnhooepaemlcaaGreatOC7
import Derived.Test.YtmnhooepaemlcaaGreatOC9
set_option linter.all false
namespace Go.Proofs.YtmnhooepaemlcaaGreat
open Go Go.Pw Go.Pw.Sc Go.Pw.Md
set_option maxRecDepth 100000
set_option maxHeartbeats 4000000
set_option synthInstance.maxHeartbeats 400000
set_option synthInstance.maxSize 2000
attribute [local irreducible] CW OW RW thenK blockK
attribute [local irreducible] scopeK loopK TRW ATW
theorem slicesEqI (v1 v2 : Value) (xs ys : List Int) (L : Chunk) (h1 : Rd L 1 v1 xs.length (iv xs)) (h2 : Rd L 1 v2 ys.length (iv ys)) (l1 : xs.length ≤ 16777216) (l2 : ys.length ≤ 16777216) : Fn1 Tryz.prog 71 [v1, v2] L (fun u L' => u = .bool (decide (xs = ys)) ∧ L = L') := by
 obtain ⟨a1, c1, rfl, _⟩ := h1.isSlice
 obtain ⟨a2, c2, rfl, _⟩ := h2.isSlice
 intro w0; refine Spec.enter2 Tryz.func71 rfl Tryz.ntmps71 (by decide) ?_
 have z6:DrP 6 [0,1,2,3,4,5,6,7,8]:=⟨⟨⟩⟩
 by_cases hl : xs.length = ys.length
 ·have hl' : (xs.length : Int) = ys.length := by omega
  repeat' (first|refine Gi0 fun _=>?_|refine Gi1 ?_|refine Gi2 (fun _=>?_) fun _=>?_|refine Gi3 ?_|fail)
  refine CW.count xs.length (fun j ρ ds L' => ds = [] ∧ L' = L ∧ xs.take j = ys.take j ∧ Ev ρ 0 (.slice a1 xs.length c1) ∧ Ev ρ 1 (.slice a2 ys.length c2) ∧ Ev ρ 12 (.int .i64 (xs.length : Int)) ∧ Ev ρ 13 (.int .i64 (j : Int))) ⟨rfl, rfl, by simp, ii, ii, ii, ii⟩ ?_
  rintro j ρ ds L' hj ⟨rfl, rfl, hg, e0, e1, e12, e13⟩
  by_cases hjl : j < xs.length
  ·have hjl' : j < ys.length := by omega
   obtain ⟨bP, kP, cP, lP, eP, fP, hP, hPin, hPc, hPn⟩ := h1.open1 (by omega)
   obtain ⟨bQ, kQ, cQ, lQ, eQ, fQ, hQ, hQin, hQc, hQn⟩ := h2.open1 (by omega)
   cases hP
   cases hQ
   have nP := hPn j _ hjl (iv_get hjl)
   have nQ := hQn j _ hjl' (iv_get hjl')
   have nx : xs[j] = ys[j] → xs.take (j + 1) = ys.take (j + 1) := fun h => by rw [take_step hjl, take_step hjl', hg, h]
   have bad : ¬ xs[j] = ys[j] → decide (xs = ys) = false := fun h => decide_eq_false fun e => h (by subst e; rfl)
   generalize xs[j] = x at *
   generalize ys[j] = y at *
   by_cases hxy : x = y
   ·have hh := nx hxy
    subst hxy
    clear nx bad
    repeat' (first|refine Gi0 fun _=>?_|refine Gi1 ?_|refine Gi2 (fun _=>?_) fun _=>?_|refine Gi3 ?_|fail)
    exact ⟨hjl, rfl, rfl, hh, ii, ii, ii, by rw [Int.natCast_add]; infer_instance⟩
   ·rw [bad hxy]
    clear nx bad
    repeat' (first|refine Gi0 fun _=>?_|refine Gi1 ?_|refine Gi2 (fun _=>?_) fun _=>?_|refine Gi3 ?_|fail)
    exact bodyK.retD L' (Res.one Tryz.results71) ⟨rfl, rfl⟩
  ·obtain rfl : j = xs.length := by omega
   rw [List.take_length, hl, List.take_length] at hg
   rw [decide_eq_true hg]
   repeat' (first|refine Gi0 fun _=>?_|refine Gi1 ?_|refine Gi2 (fun _=>?_) fun _=>?_|refine Gi3 ?_|fail)
   exact bodyK.retD L' (Res.one Tryz.results71) ⟨rfl, rfl⟩
 ·rw [decide_eq_false fun h => hl (by rw [h])]
  have hl' : ¬ (xs.length : Int) = ys.length := by omega
  repeat' (first|refine Gi0 fun _=>?_|refine Gi1 ?_|refine Gi2 (fun _=>?_) fun _=>?_|refine Gi3 ?_|fail)
  exact bodyK.retD L (Res.one Tryz.results71) ⟨rfl, rfl⟩
instance eqKnown {a b c d e f : Int} : EqA Tryz.prog 65 [.int .u32 a, .int .i64 b, .int .i64 c] [.int .u32 d, .int .i64 e, .int .i64 f] (decide (a = d ∧ b = e ∧ c = f)) :=
 ⟨by kernel_rfl, fun w => eq_three Tryz.underlying65 ⟨rfl, rfl, by decide⟩ ⟨rfl, rfl, by decide⟩ ⟨rfl, rfl, by decide⟩ (by kernel_rfl) w a b c d e f⟩
theorem modelSame1 (p q : Pc) (vp vq : Value) (L : Chunk) (h1 : Rd L 1 vp p.b.length (iv p.b)) (h2 : Rd L 1 vq q.b.length (iv q.b)) (l1 : p.b.length ≤ 16777216) (l2 : q.b.length ≤ 16777216) : Fn1 Tryz.prog 70 [pcV p vp, pcV q vq] L (fun u L' => u = .bool (decide (p = q)) ∧ L = L') := by
 have s1 := h1.sng
 have s2 := h2.sng
 intro w0; refine Spec.enter2 Tryz.func70 rfl Tryz.ntmps70 (by decide) ?_
 by_cases d : p.ad = q.ad ∧ p.size = q.size ∧ p.room = q.room
 ·have e : decide (p = q) = decide (p.b = q.b) := by
   congr 1
   rw [eq_iff_iff]
   exact ⟨fun h => by rw [h], fun h => pc_eq d.1 d.2.1 d.2.2 h⟩
  rw [e]
  repeat' (first|refine Ga0 fun _=>?_|refine Ga1 ?_|refine Ga2 (fun _=>?_) fun _=>?_|refine Ga3 ?_|refine Ga4 fun _=>?_|fail)
  refine OW.call (slicesEqI vp vq p.b q.b _ h1.to h2.to l1 l2) ?_
  rintro _ _ ⟨rfl, rfl⟩
  generalize decide (p.b = q.b) = bb
  repeat' (first|refine Ga0 fun _=>?_|refine Ga1 ?_|refine Ga2 (fun _=>?_) fun _=>?_|refine Ga3 ?_|refine Ga4 fun _=>?_|fail)
  exact bodyK.retD L (Res.one Tryz.results70) ⟨rfl, rfl⟩
 ·rw [decide_eq_false fun h => d (by subst h; exact ⟨rfl, rfl, rfl⟩)]
  repeat' (first|refine Ga0 fun _=>?_|refine Ga1 ?_|refine Ga2 (fun _=>?_) fun _=>?_|refine Ga3 ?_|refine Ga4 fun _=>?_|fail)
  exact bodyK.retD L (Res.one Tryz.results70) ⟨rfl, rfl⟩
theorem modelCopy1 (b : Nat) (L : Chunk) : Fn1 Tryz.prog 65 [.map (some b)] L (fun _ L' => L' = L) := by
 intro w0; refine Spec.enter1 Tryz.func65 rfl Tryz.ntmps65 (by decide) ?_
 repeat' (first|refine Ga0 fun _=>?_|refine Ga1 ?_|refine Ga2 (fun _=>?_) fun _=>?_|refine Ga3 ?_|fail)
 exact bodyK.nrm (Res.zero Tryz.results65) rfl
theorem modelCopy (bm bp : Nat) (m : Mod) (D L : Chunk) [hm : InC L bm (.cells (mcells m bp).toArray 142 (0, 0))] [hD : MemC D L] (hr : MRest D bp m) :
  Fn1 Tryz.prog 25 [.pointer (some ⟨bm, 0, none⟩)] L (fun u L' => ∃ bn b N, u = .pointer (some ⟨bn, 0, none⟩) ∧ L' = (bn, .cells (mcells m b).toArray 142 (0, 0)) :: (N ++ L) ∧ MRest (N ++ D) b m) := by
 intro w0; refine Spec.enter1 Tryz.func25 rfl Tryz.ntmps25 (by decide) ?_
 have hm' := hm
 obtain ⟨es, c, zs, h1, hk, hz, hp⟩ := hr
 have h1' : InC L bp (.map es.toArray c) := ⟨hD.out _ h1.out⟩
 repeat' (first|refine Ga0 fun _=>?_|refine Ga1 ?_|refine Ga2 (fun _=>?_) fun _=>?_|refine Ga3 ?_|fail)
 refine OW.call (modelNone bm bp m _) ?_
 rintro _ _ ⟨rfl, rfl⟩
 repeat' (first|refine Ga0 fun _=>?_|refine Ga1 ?_|refine Ga2 (fun _=>?_) fun _=>?_|refine Ga3 ?_|fail)
 refine OW.call (modelWith2 bm bp c m es _ L (fun es' c' N L2 => es' = es ∧ c' = c ∧ N = [] ∧ L2 = L) (fun es' c' N L2 h => by obtain ⟨_, _, _, rfl⟩ := h; exact hm') (fun b => FnP.vp (first := #[]) (cap := #[]) ((modelCopy1 b _).mono (fun _ L' e => ⟨[], es, c, L, by rw [e]; rfl, rfl, rfl, rfl, rfl⟩) (fun _ _ h => h)))) ?_
 rintro _ _ ⟨bn, b, N, es', c', L2, rfl, rfl, rfl, rfl, rfl, rfl⟩
 repeat' (first|refine Ga0 fun _=>?_|refine Ga1 ?_|refine Ga2 (fun _=>?_) fun _=>?_|refine Ga3 ?_|fail)
 refine bodyK.ret (Res.one Tryz.results25) ⟨bn, b, [(b, _)], rfl, rfl, es', c', zs, ii, hk, ?_, hp⟩
 have : MemC D ([(b, Obj.map es'.toArray c')] ++ D) := ⟨fun q hq => List.mem_append_right _ hq⟩
 exact hz.to
instance op1MapLen {P : Program} {ρ : Env} {L : Chunk} {ty t kt et : TypeId} {x : Operand} {m c : Nat} {es : List MapEntry} [ht : Und P t (.map kt et)] [hx : EvO ρ x (.map (some m))] [hin : InC L m (.map es.toArray c)] : Op1 P ρ L (.call { callee := .builtin .len, args := #[x], argTypes := #[t] }) ty (.int .i64 es.length) := ⟨yl_mapLen ht hx hin⟩
theorem rooms_len {m : Mod} (h : WF m) {p : Pc} (hp : p ∈ m.L) : p.b.length ≤ 16777216 := by
 have := h.ok p hp
 have h1 := this.len
 have h2 := this.fin
 have h3 := this.ad
 omega
def EqM (zs1 zs2 : List (MapEntry × Pc)) : Prop := zs1.length = zs2.length ∧ ∀ z ∈ zs1, z.2 ∈ zs2.map (·.2)
theorem mapsEqual (b1 b2 c1 c2 : Nat) (es1 es2 : List MapEntry) (zs1 zs2 : List (MapEntry × Pc)) (D L : Chunk) [hm1 : InC L b1 (.map es1.toArray c1)] [hm2 : InC L b2 (.map es2.toArray c2)] [hD : MemC D L] (hk1 : KV .u32 es1 c1) (hk2 : KV .u32 es2 c2) (hz1 : Zs D es1 zs1) (hz2 : Zs D es2 zs2)
  (ha : ∀ z ∈ zs2, ∀ y ∈ zs2, z.2.ad = y.2.ad → z = y) (hl1 : ∀ z ∈ zs1, z.2.b.length ≤ 16777216) (hl2 : ∀ z ∈ zs2, z.2.b.length ≤ 16777216) (hn1 : zs1.length ≤ 1073741824) (hn2 : zs2.length ≤ 1073741824) :
  Fn1 Tryz.prog 69 [.map (some b1), .map (some b2), kfn 70] L (fun u L' => (∃ f, u = .bool f ∧ (f = true ↔ EqM zs1 zs2)) ∧ L = L') := by
 intro w0; refine Spec.enter3 Tryz.func69 rfl Tryz.ntmps69 (by decide) ?_
 have hm1' := hm1
 have hm2' := hm2
 have he1 : es1.length = zs1.length := by rw [hz1.es]; simp
 have he2 : es2.length = zs2.length := by rw [hz2.es]; simp
 have hn : (zs1.map fun z => z.1.born).Nodup := by
  have := hk1.births
  rw [hz1.es, List.map_map] at this
  exact this
 by_cases hl : zs1.length = zs2.length
 ·have hl' : (es1.length : Int) = es2.length := by omega
  repeat' (first|refine Ga0 fun _=>?_|refine Ga1 ?_|refine Ga2 (fun _=>?_) fun _=>?_|refine Ga3 ?_|refine Ga4 fun _=>?_|fail)
  rename_i r
  refine CW.loop (fun k ρ ds L' => ds = [] ∧ (∃ X tz seen, L' = X ++ ((r, .mapIter (some b1) c1 seen c1) :: L) ∧ LeftZ zs1 seen tz ∧ k = tz.length ∧ (∀ z ∈ zs1, z ∉ tz → z.2 ∈ zs2.map (·.2))) ∧ Ev ρ 1 (.map (some b2)) ∧ Ev ρ 2 (kfn 70) ∧ Ev ρ 17 (.pointer (some ⟨r, 0, none⟩))) zs1.length
   ⟨rfl, ⟨[], zs1, #[], rfl, LeftZ.init zs1, rfl, fun z h1 h2 => absurd h1 h2⟩, ii, ii, ii⟩ ?_
  rintro k ρ ds L' ⟨rfl, ⟨X, tz, seen, rfl, hlz, rfl, hin⟩, e1, e2, e17⟩
  repeat' (first|refine Ga0 fun _=>?_|refine Ga1 ?_|refine Ga2 (fun _=>?_) fun _=>?_|refine Ga3 ?_|refine Ga4 fun _=>?_|fail)
  refine OW.nextZ (r := r) (m := b1) (since := c1) (c0 := c1) (clock := c1) (seen := seen) (es := es1) (zs := zs1) hk1 hz1.es hlz (fun e he => hk1.old e he) (Nat.le_refl _) (fun h => ?_) (fun A z B htz hz' hl2' => ?_)
  ·subst h
   have hyes : EqM zs1 zs2 := ⟨hl, fun z hz => hin z hz (by simp)⟩
   repeat' (first|refine Ga0 fun _=>?_|refine Ga1 ?_|refine Ga2 (fun _=>?_) fun _=>?_|refine Ga3 ?_|refine Ga4 fun _=>?_|fail)
   exact bodyK.retD L (Res.one Tryz.results69) ⟨⟨true, rfl, fun _ => hyes, fun _ => rfl⟩, rfl⟩
  ·obtain ⟨hkey, v, hzv, hrd⟩ := hz1.at_ z hz'
   have sv := hrd.sng
   have hze : z.1 ∈ es1 := by rw [hz1.es]; exact List.mem_map.2 ⟨z, hz', rfl⟩
   repeat' (first|refine Ga0 fun _=>?_|refine Ga1 ?_|refine Ga2 (fun _=>?_) fun _=>?_|refine Ga3 ?_|refine Ga4 fun _=>?_|fail)
   refine OW.entryE (r := r) (m := b1) (since := c1) (c := c1) (seen := seen) (e := z.1) hk1 hze ?_
   rw [hkey, hzv]
   repeat' (first|refine Ga0 fun _=>?_|refine Ga1 ?_|refine Ga2 (fun _=>?_) fun _=>?_|refine Ga3 ?_|refine Ga4 fun _=>?_|fail)
   refine OW.lookOk (m := b2) (c := c2) (es := es2) hk2.keys (fun w hf => ?_) (fun hf => ?_)
   ·obtain ⟨y, hy, hya, hyv⟩ := hz2.find hk2 hf
    obtain ⟨_, vy, hyv2, hrdy⟩ := hz2.at_ y hy
    have svy := hrdy.sng
    rw [← hyv, hyv2]
    repeat' (first|refine Ga0 fun _=>?_|refine Ga1 ?_|refine Ga2 (fun _=>?_) fun _=>?_|refine Ga3 ?_|refine Ga4 fun _=>?_|fail)
    refine OW.callV1 (FnP.vp (first := #[]) (cap := #[]) (modelSame1 z.2 y.2 v vy _ hrd.to hrdy.to (hl1 z hz') (hl2 y hy))) ?_
    rintro _ _ ⟨rfl, rfl⟩
    by_cases he : z.2 = y.2
    ·rw [decide_eq_true he]
     have hin2 : ∀ q ∈ zs1, q ∉ A ++ B → q.2 ∈ zs2.map (·.2) := fun q hq hqn => by
      by_cases hqt : q ∈ tz
      ·rw [htz] at hqt
       have : q = z := by
        rcases List.mem_append.1 hqt with h | h
        ·exact absurd (List.mem_append_left _ h) hqn
        ·rcases List.mem_cons.1 h with h | h
         ·exact h
         ·exact absurd (List.mem_append_right _ h) hqn
       rw [this, he]
       exact List.mem_map.2 ⟨y, hy, rfl⟩
      ·exact hin q hq hqt
     repeat' (first|refine Ga0 fun _=>?_|refine Ga1 ?_|refine Ga2 (fun _=>?_) fun _=>?_|refine Ga3 ?_|refine Ga4 fun _=>?_|fail)
     exact ⟨(A ++ B).length, by rw [htz]; simp, rfl, ⟨_ :: _ :: X, A ++ B, _, rfl, hl2', rfl, hin2⟩, ii, ii, ii⟩
    ·have hnot : ¬ EqM zs1 zs2 := fun h => by
      obtain ⟨q, hq, hqe⟩ := List.mem_map.1 (h.2 z hz')
      have hqe : q.2 = z.2 := hqe
      have := ha q hq y hy (by rw [hqe, hya])
      subst this
      exact he hqe.symm
     rw [decide_eq_false he]
     repeat' (first|refine Ga0 fun _=>?_|refine Ga1 ?_|refine Ga2 (fun _=>?_) fun _=>?_|refine Ga3 ?_|refine Ga4 fun _=>?_|fail)
     exact bodyK.retD L (Res.one Tryz.results69) ⟨⟨false, rfl, fun h => (by cases h), fun h => absurd h hnot⟩, rfl⟩
   ·have hnot : ¬ EqM zs1 zs2 := fun h => by
     obtain ⟨q, hq, hqe⟩ := List.mem_map.1 (h.2 z hz')
     have hqe : q.2 = z.2 := hqe
     exact hz2.find_none hk2 hf q hq (by rw [hqe])
    repeat' (first|refine Ga0 fun _=>?_|refine Ga1 ?_|refine Ga2 (fun _=>?_) fun _=>?_|refine Ga3 ?_|refine Ga4 fun _=>?_|fail)
    exact bodyK.retD L (Res.one Tryz.results69) ⟨⟨false, rfl, fun h => (by cases h), fun h => absurd h hnot⟩, rfl⟩
 ·have hl' : ¬ (es1.length : Int) = es2.length := by omega
  repeat' (first|refine Ga0 fun _=>?_|refine Ga1 ?_|refine Ga2 (fun _=>?_) fun _=>?_|refine Ga3 ?_|refine Ga4 fun _=>?_|fail)
  exact bodyK.retD L (Res.one Tryz.results69) ⟨⟨false, rfl, fun h => (by cases h), fun h => absurd h.1 hl⟩, rfl⟩
theorem zs_apart {L : Chunk} {es : List MapEntry} {zs : List (MapEntry × Pc)} {c : Nat} (hk : KV .u32 es c) (hz : Zs L es zs) : ∀ z ∈ zs, ∀ y ∈ zs, z.2.ad = y.2.ad → z = y := by
 have hn : (zs.map fun z => kI z.1.key).Nodup := by
  have := hk.apart
  rw [hz.es, List.map_map] at this
  exact this
 intro z hz' y hy e
 refine inj_map hn z hz' y hy ?_
 rw [(hz.at_ z hz').1, (hz.at_ y hy).1]
 exact e
theorem perm_of_sub {α : Type} : ∀ {l m : List α}, l.Nodup → (∀ x ∈ l, x ∈ m) → m.length ≤ l.length → l.Perm m
 | [], m, _, _, h => by
  have : m = [] := List.eq_nil_of_length_eq_zero (by simpa using h)
  subst this
  exact .refl _
 | a :: l, m, hn, hs, h => by
  obtain ⟨A, B, rfl⟩ := List.append_of_mem (hs a (List.mem_cons_self ..))
  rw [List.nodup_cons] at hn
  have h1 : l.Perm (A ++ B) := perm_of_sub hn.2 (fun x hx => by
   have hne : x ≠ a := fun e => hn.1 (e ▸ hx)
   have := hs x (List.mem_cons_of_mem _ hx)
   simp only [List.mem_append, List.mem_cons] at this ⊢
   rcases this with h | h | h
   ·exact .inl h
   ·exact absurd h hne
   ·exact .inr h) (by simp only [List.length_append, List.length_cons] at h ⊢; omega)
  exact (h1.cons a).trans List.perm_middle.symm
theorem eqM_iff {m m2 : Mod} (h : WF m) (h2 : WF m2) {zs1 zs2 : List (MapEntry × Pc)} (p1 : (zs1.map (·.2)).Perm m.L) (p2 : (zs2.map (·.2)).Perm m2.L) : EqM zs1 zs2 ↔ m.L = m2.L := by
 have l1 := p1.length_eq
 have l2 := p2.length_eq
 simp only [List.length_map] at l1 l2
 constructor
 ·rintro ⟨a, b⟩
  have hsub : ∀ p ∈ m.L, p ∈ m2.L := fun p hp => by
   obtain ⟨z, hz, rfl⟩ := List.mem_map.1 (p1.mem_iff.2 hp)
   exact p2.mem_iff.1 (b z hz)
  have n1 : m.L.Nodup := h.rise.imp fun {p q} hpq e => by subst e; omega
  exact perm_eq h h2 (perm_of_sub n1 hsub (by omega))
 ·intro e
  refine ⟨by rw [← e] at l2; omega, fun z hz => p2.mem_iff.2 ?_⟩
  rw [← e]
  exact p1.mem_iff.1 (List.mem_map.2 ⟨z, hz, rfl⟩)
theorem modelSame (bm bp : Nat) (m : Mod) (bn bq : Nat) (m2 : Mod) (hwf : WF m) (hwf2 : WF m2) (D L : Chunk) [hm : InC L bm (.cells (mcells m bp).toArray 142 (0, 0))] [hn : InC L bn (.cells (mcells m2 bq).toArray 142 (0, 0))] [hD : MemC D L] (hr : MRest D bp m) (hr2 : MRest D bq m2) :
  Fn1 Tryz.prog 28 [.pointer (some ⟨bm, 0, none⟩), .pointer (some ⟨bn, 0, none⟩)] L (fun u L' => u = .bool (decide (m = m2)) ∧ L = L') := by
 intro w0; refine Spec.enter2 Tryz.func28 rfl Tryz.ntmps28 (by decide) ?_
 have z3:DrP 3 [0,1,2,3,4,5,6,7,8,9,10,11,12,13,14,15,16,17,18,19,20,21,22,23,24,25,26,27,28,29,30,31]:=⟨⟨⟩⟩
 have hm' := hm
 have hn' := hn
 obtain ⟨es, c, zs, h1, hk, hz, hp⟩ := hr
 obtain ⟨es2, c2_, zs2, h2, hk2, hz2, hp2⟩ := hr2
 have h1' : InC L bp (.map es.toArray c) := ⟨hD.out _ h1.out⟩
 have h2' : InC L bq (.map es2.toArray c2_) := ⟨hD.out _ h2.out⟩
 have no : ¬ m = m2 → decide (m = m2) = false := fun h => decide_eq_false h
 have hll := wf_len2 hwf
 have hll2 := wf_len2 hwf2
 have hpl := hp.length_eq
 have hpl2 := hp2.length_eq
 simp only [List.length_map] at hpl hpl2
 repeat' (first|refine Gi0 fun _=>?_|refine Gi1 ?_|refine Gi2 (fun _=>?_) fun _=>?_|refine Gi3 ?_|fail)
 refine OW.call (modelNone bm bp m _) ?_
 rintro _ _ ⟨rfl, rfl⟩
 repeat' (first|refine Gi0 fun _=>?_|refine Gi1 ?_|refine Gi2 (fun _=>?_) fun _=>?_|refine Gi3 ?_|fail)
 refine OW.call (modelNone bn bq m2 _) ?_
 rintro _ _ ⟨rfl, rfl⟩
 by_cases c1 : m.slot = m2.slot
 ·by_cases c2 : m.quota = m2.quota
  ·repeat' (first|refine Gi0 fun _=>?_|refine Gi1 ?_|refine Gi2 (fun _=>?_) fun _=>?_|refine Gi3 ?_|fail)
   refine RW.call (mapsEqual bp bq c c2_ es es2 zs zs2 D _ hk hk2 hz hz2 (zs_apart hk2 hz2) (fun z hz' => rooms_len hwf (hp.mem_iff.1 (List.mem_map.2 ⟨z, hz', rfl⟩))) (fun z hz' => rooms_len hwf2 (hp2.mem_iff.1 (List.mem_map.2 ⟨z, hz', rfl⟩))) (by omega) (by omega)) ?_
   rintro _ _ ⟨⟨f, rfl, hf⟩, rfl⟩
   refine pinAll ?_
   have hfd : f = decide (m = m2) := by
    rw [eqM_iff hwf hwf2 hp hp2] at hf
    have : m.L = m2.L ↔ m = m2 := ⟨fun h => by
     obtain ⟨s, q, l⟩ := m
     obtain ⟨s', q', l'⟩ := m2
     simp only at c1 c2 h
     subst c1 c2 h
     rfl, fun h => by rw [h]⟩
    rw [this] at hf
    cases f with
    | true => exact (decide_eq_true (hf.1 rfl)).symm
    | false => exact (decide_eq_false fun h => by have := hf.2 h; cases this).symm
   rw [← hfd]
   clear hf hfd no
   repeat' (first|refine Gi0 fun _=>?_|refine Gi1 ?_|refine Gi2 (fun _=>?_) fun _=>?_|refine Gi3 ?_|fail)
   exact bodyK.retD L (Res.one Tryz.results28) ⟨rfl, rfl⟩
  ·rw [no fun h => c2 (by rw [h])]
   repeat' (first|refine Gi0 fun _=>?_|refine Gi1 ?_|refine Gi2 (fun _=>?_) fun _=>?_|refine Gi3 ?_|fail)
   exact bodyK.retD L (Res.one Tryz.results28) ⟨rfl, rfl⟩
 ·rw [no fun h => c1 (by rw [h])]
  repeat' (first|refine Gi0 fun _=>?_|refine Gi1 ?_|refine Gi2 (fun _=>?_) fun _=>?_|refine Gi3 ?_|fail)
  exact bodyK.retD L (Res.one Tryz.results28) ⟨rfl, rfl⟩
end Go.Proofs.YtmnhooepaemlcaaGreat
