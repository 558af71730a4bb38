/- OrderCalls: true for every input; arguments as before. Part 11. Conditions: none. -/
import Derived.Test.YtmnhooepaemlcaaGreatOC2
import Derived.Test.YtmnhooepaemlcaaGreatOC3
import Derived.Test.YtmnhooepaemlcaaGreatOC8
import Derived.Test.YtmnhooepaemlcaaGreatOC10
set_option linter.all false
namespace Go.Proofs.YtmnhooepaemlcaaGreat
open Go Go.Pw Go.Pw.Sc Go.Pw.Md Go.Pw.Or
set_option maxRecDepth 100000
set_option maxHeartbeats 4000000
set_option synthInstance.maxHeartbeats 400000
set_option synthInstance.maxSize 2000
attribute [local irreducible] CW OW RW thenK blockK
attribute [local irreducible] scopeK loopK TRW ATW
def GE (G : Chunk) (x : Mod) (v : Value) : Prop := ∃ bm bp, v = .pointer (some ⟨bm, 0, none⟩) ∧ InC G bm (.cells (mcells x bp).toArray 142 (0, 0)) ∧ MRest G bp x ∧ WF x
theorem GE.to {G G' : Chunk} {x : Mod} {v : Value} (h : GE G x v) [hm : MemC G G'] : GE G' x v := let ⟨a, b, c, d, e, f⟩ := h; ⟨a, b, c, ⟨hm.out _ d.out⟩, e.to, f⟩
theorem oSame1 (b7 bm bp : Nat) (x m : Mod) (v : Value) (D L : Chunk) [hD : MemC D L] [h7 : InC L b7 (.cells #[.pointer (some ⟨bm, 0, none⟩)] 51 (0, 0))] [hm : InC D bm (.cells (mcells m bp).toArray 142 (0, 0))] (hr : MRest D bp m) (hwf : WF m) (hx : GE D x v) :
  Fn1 Tryz.prog 87 [v, .pointer (some ⟨b7, 0, none⟩)] L (fun u L' => u = .bool (decide (x = m)) ∧ L = L') := by
 obtain ⟨bn, bq, rfl, hn, hrx, hwx⟩ := hx
 have hm' : InC L bm (.cells (mcells m bp).toArray 142 (0, 0)) := ⟨hD.out _ hm.out⟩
 have hn' : InC L bn (.cells (mcells x bq).toArray 142 (0, 0)) := ⟨hD.out _ hn.out⟩
 intro w0; refine Spec.enter2 Tryz.func87 rfl Tryz.ntmps87 (by decide) ?_
 repeat' (first|refine Ga0 fun _=>?_|refine Ga1 ?_|refine Ga2 (fun _=>?_) fun _=>?_|refine Ga3 ?_|fail)
 refine OW.call (modelSame bn bq x bm bp m hwx hwf D _ hrx hr) ?_
 rintro _ _ ⟨rfl, rfl⟩
 repeat' (first|refine Ga0 fun _=>?_|refine Ga1 ?_|refine Ga2 (fun _=>?_) fun _=>?_|refine Ga3 ?_|fail)
 exact bodyK.retD L (Res.one Tryz.results87) ⟨rfl, rfl⟩
def GL (G : Chunk) (ps : List Value) (xs : List Mod) : Prop := ps.length = xs.length ∧ ∀ i (h : i < ps.length) (h' : i < xs.length), GE G xs[i] ps[i]
theorem oIndexM (v fv : Value) (ps : List Value) (xs : List Mod) (m : Mod) (sf : Sng fv) (G L : Chunk) (hv : Rd L 1 v ps.length ps) (hg : GL G ps xs) (hn : (ps.length : Int) ≤ 9223372036854775807)
  (hf : ∀ x p, GE G x p → VP Tryz.prog fv [p] L (fun u L' => u = .bool (decide (x = m)) ∧ L = L') noPanic) :
  Fn1 Tryz.prog 132 [v, fv] L (fun u L' => (∃ j : Int, u = .int .i64 j ∧ (0 ≤ j ↔ m ∈ xs)) ∧ L = L') := by
 obtain ⟨av, cv, rfl, _⟩ := hv.isSlice
 intro w0; refine Spec.enter2 Tryz.func132 rfl Tryz.ntmps132 (by decide) ?_
 repeat' (first|refine Ga0 fun _=>?_|refine Ga1 ?_|refine Ga2 (fun _=>?_) fun _=>?_|refine Ga3 ?_|fail)
 refine CW.count ps.length (fun i ρ ds L' => ds = [] ∧ L' = L ∧ m ∉ xs.take i ∧ Ev ρ 0 (.slice av ps.length cv) ∧ Ev ρ 1 fv ∧ Ev ρ 7 (.int .i64 (ps.length : Int)) ∧ Ev ρ 8 (.int .i64 (i : Int))) ⟨rfl, rfl, by simp, ii, ii, ii, ii⟩ ?_
 rintro i ρ ds L' hi ⟨rfl, rfl, hno, e0, e1, e7, e8⟩
 by_cases hlt : i < ps.length
 ·obtain ⟨bk, kk, capk, lk, ek, frk, hbe, hbin, hbc, hbn⟩ := hv.open1 (by omega)
  cases hbe
  have hix : i < xs.length := by rw [← hg.1]; exact hlt
  have hge := hg.2 i hlt hix
  have hnth := hbn i ps[i] hlt (List.getElem?_eq_getElem hlt)
  have hvp := hf _ _ hge
  have hts : xs.take (i + 1) = xs.take i ++ [xs[i]] := by rw [List.take_add_one, List.getElem?_eq_getElem hix]; rfl
  have hmem : xs[i] ∈ xs := List.getElem_mem hix
  have hyes : xs[i] = m → m ∈ xs := fun h => h ▸ hmem
  have hnx : ¬ xs[i] = m → m ∉ xs.take (i + 1) := fun h hm => by
   rw [hts] at hm
   rcases List.mem_append.1 hm with hm | hm
   ·exact hno hm
   ·exact h (List.mem_singleton.1 hm).symm
  have hlti : (i : Int) < ps.length := by omega
  obtain ⟨bm, bp, hpv, _⟩ := hge
  clear hts hmem hbn
  generalize xs[i] = x at *
  generalize ps[i] = p at *
  subst hpv
  repeat' (first|refine Ga0 fun _=>?_|refine Ga1 ?_|refine Ga2 (fun _=>?_) fun _=>?_|refine Ga3 ?_|fail)
  refine OW.callV1 hvp ?_
  rintro _ _ ⟨rfl, rfl⟩
  by_cases hp : x = m
  ·rw [decide_eq_true hp]
   repeat' (first|refine Ga0 fun _=>?_|refine Ga1 ?_|refine Ga2 (fun _=>?_) fun _=>?_|refine Ga3 ?_|fail)
   exact bodyK.retD L' (Res.one Tryz.results132) ⟨⟨_, rfl, ⟨fun _ => hyes hp, fun _ => by omega⟩⟩, rfl⟩
  ·rw [decide_eq_false hp]
   repeat' (first|refine Ga0 fun _=>?_|refine Ga1 ?_|refine Ga2 (fun _=>?_) fun _=>?_|refine Ga3 ?_|fail)
   exact ⟨hlt, rfl, rfl, hnx hp, ii, ii, ii, by rw [Int.natCast_add]; infer_instance⟩
 ·obtain rfl : i = ps.length := by omega
  rw [hg.1, List.take_length] at hno
  repeat' (first|refine Ga0 fun _=>?_|refine Ga1 ?_|refine Ga2 (fun _=>?_) fun _=>?_|refine Ga3 ?_|fail)
  exact bodyK.retD L' (Res.one Tryz.results132) ⟨⟨_, rfl, ⟨fun h => absurd h (by decide), fun h => absurd h hno⟩⟩, rfl⟩
theorem oContainsM (v fv : Value) (ps : List Value) (xs : List Mod) (m : Mod) (sf : Sng fv) (G L : Chunk) (hv : Rd L 1 v ps.length ps) (hg : GL G ps xs) (hn : (ps.length : Int) ≤ 9223372036854775807)
  (hf : ∀ x p, GE G x p → VP Tryz.prog fv [p] L (fun u L' => u = .bool (decide (x = m)) ∧ L = L') noPanic) :
  Fn1 Tryz.prog 86 [v, fv] L (fun u L' => (∃ q, u = .bool q ∧ (q = true ↔ m ∈ xs)) ∧ L = L') := by
 obtain ⟨av, cv, hav, _⟩ := hv.isSlice
 have sv : Sng v := by rw [hav]; infer_instance
 intro w0; refine Spec.enter2 Tryz.func86 rfl Tryz.ntmps86 (by decide) ?_
 repeat' (first|refine Ga0 fun _=>?_|refine Ga1 ?_|refine Ga2 (fun _=>?_) fun _=>?_|refine Ga3 ?_|fail)
 refine OW.call (oIndexM v fv ps xs m sf G _ hv hg hn hf) ?_
 rintro _ _ ⟨⟨j, rfl, hj⟩, rfl⟩
 by_cases h : 0 ≤ j
 ·repeat' (first|refine Ga0 fun _=>?_|refine Ga1 ?_|refine Ga2 (fun _=>?_) fun _=>?_|refine Ga3 ?_|fail)
  exact bodyK.retD L (Res.one Tryz.results86) ⟨⟨true, rfl, ⟨fun _ => hj.1 h, fun _ => rfl⟩⟩, rfl⟩
 ·repeat' (first|refine Ga0 fun _=>?_|refine Ga1 ?_|refine Ga2 (fun _=>?_) fun _=>?_|refine Ga3 ?_|fail)
  exact bodyK.retD L (Res.one Tryz.results86) ⟨⟨false, rfl, ⟨fun h' => (by cases h'), fun h' => absurd (hj.2 h') h⟩⟩, rfl⟩
structure GEnt where
 e : MapEntry
 N : Chunk
 ps : List Value
 xs : List Mod
def GQ (zs : List GEnt) : Chunk := (zs.map (·.N)).flatten
def tot (zs : List GEnt) : Nat := (zs.map fun z => z.ps.length).sum
structure GZ (l : List Td) (G : Chunk) (z : GEnt) : Prop where
 row : Row 51 1 z.N z.e.val z.ps.length z.ps
 gl : GL G z.ps z.xs
 nw : ∃ s : Nat, z.e.key = .int .i64 (s : Int) ∧ ∀ x ∈ z.xs, NoWay l s x
structure GoneOk (l : List Td) (G : Chunk) (gs : List MapEntry) (gc : Nat) (zs : List GEnt) : Prop where
 kv : KV .i64 gs gc
 es : gs = zs.map (·.e)
 z : ∀ z ∈ zs, GZ l G z
theorem GL.to {G G' : Chunk} {ps : List Value} {xs : List Mod} (h : GL G ps xs) [hm : MemC G G'] : GL G' ps xs := ⟨h.1, fun i h1 h2 => (h.2 i h1 h2).to⟩
theorem GoneOk.to {l : List Td} {G G' : Chunk} {gs : List MapEntry} {gc : Nat} {zs : List GEnt} (h : GoneOk l G gs gc zs) [hm : MemC G G'] : GoneOk l G' gs gc zs :=
 ⟨h.kv, h.es, fun z hz => ⟨(h.z z hz).row, GL.to (h.z z hz).gl, (h.z z hz).nw⟩⟩
theorem GoneOk.nil (l : List Td) (G : Chunk) : GoneOk l G [] 0 [] := ⟨KV.nil _, rfl, fun _ h => (by cases h)⟩
theorem gone_none {l : List Td} {G : Chunk} {gs : List MapEntry} {gc : Nat} {zs : List GEnt} (h : GoneOk l G gs gc zs) {s : Nat} (hf : findI gs (s : Int) = none) {v : Value} {N : Chunk} {p : Value} {x : Mod} (hr : Row 51 1 N v 1 [p]) (hx : GE G x p) (hn : NoWay l s x) :
  GoneOk l G (putE .i64 (s : Int) v gs gc).1 (putE .i64 (s : Int) v gs gc).2 (zs ++ [⟨⟨.int .i64 (s : Int), v, gc⟩, N, [p], [x]⟩]) := by
 refine ⟨h.kv.put, ?_, fun z hz => ?_⟩
 ·unfold putE
  rw [hf, List.map_append, ← h.es]
  rfl
 ·rcases List.mem_append.1 hz with hz | hz
  ·exact h.z z hz
  ·rw [List.mem_singleton.1 hz]
   refine ⟨hr, ⟨rfl, fun i h1 h2 => ?_⟩, s, rfl, fun y hy => by rw [List.mem_singleton.1 hy]; exact hn⟩
   have : i = 0 := by simp at h1; omega
   subst this
   exact hx
theorem gone_some {l : List Td} {G : Chunk} {gs : List MapEntry} {gc : Nat} {zs : List GEnt} (h : GoneOk l G gs gc zs) {s : Nat} {v : Value} (hf : findI gs (s : Int) = some v) :
  ∃ A z B, zs = A ++ z :: B ∧ z.e.val = v ∧ (∀ x ∈ z.xs, NoWay l s x) ∧ ∀ (v' : Value) (N' : Chunk) (p : Value) (x : Mod), Row 51 1 N' v' (z.ps.length + 1) (z.ps ++ [p]) → GE G x p → NoWay l s x →
   ∃ z', z'.N = N' ∧ z'.ps = z.ps ++ [p] ∧ GoneOk l G (putE .i64 (s : Int) v' gs gc).1 (putE .i64 (s : Int) v' gs gc).2 (A ++ z' :: B) := by
 obtain ⟨P, e, S, h1, h2, h3⟩ := h.kv.some_of hf
 have hes := h.es
 rw [h1] at hes
 obtain ⟨A, zB, rfl, hA, hzB⟩ := List.map_eq_append_iff.1 hes.symm
 obtain ⟨z, B, rfl, hz, hB⟩ := List.map_eq_cons_iff.1 hzB
 have hzz := h.z z (by simp)
 obtain ⟨s', hk, hn⟩ := hzz.nw
 have hss : s' = s := by
  rw [hz, h2] at hk
  have := (Value.int.inj hk).2
  omega
 subst hss
 refine ⟨A, z, B, rfl, by rw [hz, h3], hn, fun v' N' p x hr hx hnw => ⟨⟨⟨z.e.key, v', z.e.born⟩, N', z.ps ++ [p], z.xs ++ [x]⟩, rfl, rfl, h.kv.put, ?_, fun y hy => ?_⟩⟩
 ·have hset : (putE .i64 (s' : Int) v' gs gc).1 = setE .i64 (s' : Int) v' gs := by unfold putE; rw [hf]; rfl
  have hap := h.kv.apart
  rw [hset, h1]
  have hkz : kI z.e.key = (s' : Int) := by rw [hk]; rfl
  rw [h1] at hap
  have hap2 : ∀ x ∈ P ++ S, kI x.key ≠ (s' : Int) := fun x hx hxe => by
   rw [List.map_append, List.map_cons, ← hz, hkz] at hap
   have hnd := List.nodup_append.1 hap
   rcases List.mem_append.1 hx with hx | hx
   ·exact hnd.2.2 _ (List.mem_map.2 ⟨x, hx, hxe⟩) _ (List.mem_cons_self ..) rfl
   ·exact (List.nodup_cons.1 hnd.2.1).1 (List.mem_map.2 ⟨x, hx, hxe⟩)
  unfold setE
  rw [List.map_append, List.map_cons, List.map_append, List.map_cons]
  have hid : ∀ Q : List MapEntry, (∀ x ∈ Q, kI x.key ≠ (s' : Int)) → (Q.map fun e => if kI e.key = (s' : Int) then { key := .int .i64 (s' : Int), val := v', born := e.born } else e) = Q := fun Q hQ => by
   conv => rhs; rw [← List.map_id Q]
   exact List.map_congr_left fun x hx => by rw [if_neg (hQ x hx)]; rfl
  rw [hid P fun x hx => hap2 x (List.mem_append_left _ hx), hid S fun x hx => hap2 x (List.mem_append_right _ hx), hA, hB, ← hz, if_pos hkz, hk]
 ·rcases List.mem_append.1 hy with hy | hy
  ·exact h.z y (by simp [hy])
  ·rcases List.mem_cons.1 hy with rfl | hy
   ·refine ⟨by simpa using hr, ⟨by simp [hzz.gl.1], fun i h1 h2 => ?_⟩, s', hk, fun y hy => ?_⟩
    ·by_cases hi : i < z.ps.length
     ·have hi' : i < z.xs.length := by rw [← hzz.gl.1]; exact hi
      simp only [List.getElem_append_left hi, List.getElem_append_left hi']
      exact hzz.gl.2 i hi hi'
     ·have hi2 : i = z.ps.length := by simp at h1; omega
      have hi3 : i = z.xs.length := by rw [hi2, hzz.gl.1]
      have e1 : (z.ps ++ [p])[i] = p := by simp [hi2]
      have e2 : (z.xs ++ [x])[i] = x := by simp [hi3]
      simp only [e1, e2]
      exact hx
    ·rcases List.mem_append.1 hy with hy | hy
     ·exact hn y hy
     ·rw [List.mem_singleton.1 hy]; exact hnw
   ·exact h.z y (by simp [hy])
end Go.Proofs.YtmnhooepaemlcaaGreat
