/-
  For every input the law ModelCopies returns true, and each argument reads behind the call as it read before. This text holds lemmas for it (part 10).
  Conditions: none.
-/
import Derived.Test.YtocjgcmgkaabiaaGreatMC2
import Derived.Test.YtocjgcmgkaabiaaGreatMC3
import Derived.Test.YtocjgcmgkaabiaaGreatMC6
import Derived.Test.YtocjgcmgkaabiaaGreatMC9
set_option linter.all false
namespace Go.Proofs.YtocjgcmgkaabiaaGreat
open Go Go.Pw Go.Pw.Sc Go.Pw.Md
set_option maxRecDepth 100000
set_option maxHeartbeats 4000000
set_option synthInstance.maxHeartbeats 400000
set_option synthInstance.maxSize 2000
attribute [local irreducible] CW OW RW thenK blockK
attribute [local irreducible] scopeK loopK TRW ATW


theorem mapsKeys (bp : Nat) (L : Chunk) : Fn1 Tryz.prog 44 [.map (some bp)] L
    (fun u L' => ∃ bx, u = .func (.func 59) #[] #[.pointer (some ⟨bx, 0, none⟩)] ∧ L' = (bx, .cells #[.map (some bp)] 54 (0, 0)) :: L) := by
  intro w0; refine Spec.enter1 Tryz.func44 rfl Tryz.ntmps44 (by decide) ?_
  repeat' (first|refine Ga0 fun _=>?_|refine Ga1 ?_|refine Ga2 (fun _=>?_) fun _=>?_|refine Ga3 ?_|refine Ga4 fun _=>?_|fail)
  exact bodyK.ret (Res.one Tryz.results44) ⟨_, rfl, rfl⟩
theorem keys1 (fv : Value) [sf : Sng fv] (bx bp c : Nat) (es : List MapEntry) (J : List MapEntry → Chunk → Prop) (E : Chunk → Prop) (L : Chunk) (hk : KV .u32 es c) (h0 : J es L)
    (hJ : ∀ tz L', J tz L' → InC L' bx (.cells #[.map (some bp)] 54 (0, 0)) ∧ InC L' bp (.map es.toArray c) ∧ (tz = [] → E L') ∧
      ∀ M A e B, tz = A ++ e :: B → e ∈ es → VP Tryz.prog fv [.int .u32 (kI e.key)] (M ++ L') (fun u L'' => ∃ L3, L'' = M ++ L3 ∧ ((u = .bool true ∧ J (A ++ B) L3) ∨ (u = .bool false ∧ E L3))) noPanic) :
    Fn1 Tryz.prog 59 [fv, .pointer (some ⟨bx, 0, none⟩)] L (fun _ L' => E L') := by
  intro w0; refine Spec.enter2 Tryz.func59 rfl Tryz.ntmps59 (by decide) ?_
  obtain ⟨g1, g2, g3⟩ := hJ es L h0
  repeat' (first|refine Ga0 fun _=>?_|refine Ga1 ?_|refine Ga2 (fun _=>?_) fun _=>?_|refine Ga3 ?_|refine Ga4 fun _=>?_|fail)
  rename_i r
  clear g3
  refine CW.loop (fun m ρ ds L' => ds = [] ∧ (∃ tz seen L3, L' = (r, .mapIter (some bp) c seen c) :: L3 ∧ J tz L3 ∧ Go.Pw.Left es seen tz ∧ m = tz.length) ∧ Ev ρ 0 fv ∧ Ev ρ 5 (.pointer (some ⟨r, 0, none⟩))) es.length ⟨rfl, ⟨es, #[], L, rfl, h0, Go.Pw.Left.init es, rfl⟩, inferInstance, inferInstance⟩ ?_
  clear g1 g2 h0
  rintro m ρ ds L' ⟨rfl, ⟨tz, seen, L3, rfl, hj, hl, rfl⟩, e0, e5⟩
  obtain ⟨g1, g2, g3, g4⟩ := hJ tz L3 hj
  repeat' (first|refine Ga0 fun _=>?_|refine Ga1 ?_|refine Ga2 (fun _=>?_) fun _=>?_|refine Ga3 ?_|refine Ga4 fun _=>?_|fail)
  refine OW.nextE (r := r) (m := bp) (since := c) (c0 := c) (clock := c) (seen := seen) (es := es) hk hl (fun e he => hk.old e he) (Nat.le_refl _) (fun h => ?_) (fun A e B htz hze hl' => ?_)
  · repeat' (first|refine Ga0 fun _=>?_|refine Ga1 ?_|refine Ga2 (fun _=>?_) fun _=>?_|refine Ga3 ?_|refine Ga4 fun _=>?_|fail)
    exact bodyK.nrmD L3 (Res.zero Tryz.results59) (g3 h)
  · obtain ⟨j, hkey⟩ := hk.keys e hze
    have hkj : kI e.key = j := by rw [hkey]; rfl
    have g5 := g4 [(r, .mapIter (some bp) c (seen.push e.born) c)] A e B htz hze
    rw [hkj] at g5
    repeat' (first|refine Ga0 fun _=>?_|refine Ga1 ?_|refine Ga2 (fun _=>?_) fun _=>?_|refine Ga3 ?_|refine Ga4 fun _=>?_|fail)
    refine OW.entryE (r := r) (m := bp) (since := c) (c := c) (seen := seen) (e := e) hk hze ?_
    rw [hkey]
    repeat' (first|refine Ga0 fun _=>?_|refine Ga1 ?_|refine Ga2 (fun _=>?_) fun _=>?_|refine Ga3 ?_|refine Ga4 fun _=>?_|fail)
    refine OW.callV1 g5 ?_
    rintro _ _ ⟨L4, rfl, ⟨rfl, hj'⟩ | ⟨rfl, hE⟩⟩
    · repeat' (first|refine Ga0 fun _=>?_|refine Ga1 ?_|refine Ga2 (fun _=>?_) fun _=>?_|refine Ga3 ?_|refine Ga4 fun _=>?_|fail)
      exact ⟨(A ++ B).length, by rw [htz]; simp, rfl, ⟨A ++ B, _, L4, rfl, hj', hl', rfl⟩, inferInstance, inferInstance⟩
    · repeat' (first|refine Ga0 fun _=>?_|refine Ga1 ?_|refine Ga2 (fun _=>?_) fun _=>?_|refine Ga3 ?_|refine Ga4 fun _=>?_|fail)
      exact bodyK.retD L4 (Res.zero Tryz.results59) hE
theorem appendSeq (bx bp c : Nat) (es : List MapEntry) (L : Chunk) [h1 : InC L bx (.cells #[.map (some bp)] 54 (0, 0))] [h2 : InC L bp (.map es.toArray c)] (hk : KV .u32 es c) (hl : es.length ≤ 1073741824) :
    Fn1 Tryz.prog 75 [.slice none 0 0, .func (.func 59) #[] #[.pointer (some ⟨bx, 0, none⟩)]] L
      (fun u L' => ∃ (N : Chunk) (ks : List Int), L' = N ++ L ∧ ks.Perm (es.map fun e => kI e.key) ∧ Row 25 1 N u ks.length (ks.map (Value.int .u32))) := by
  intro w0; refine Spec.enterM2 Tryz.func75 rfl Tryz.ntmps75 (by decide) ?_
  have h1' := h1
  have h2' := h2
  repeat' (first|refine Ga0 fun _=>?_|refine Ga1 ?_|refine Ga2 (fun _=>?_) fun _=>?_|refine Ga3 ?_|refine Ga4 fun _=>?_|fail)
  rename_i b2
  refine CW.rangeFunc (fun lp DD rec hrec => ?_)
  refine (keys1 (.func (.yield lp) #[] #[]) bx bp c es
    (fun tz Lx => ∃ (N : Chunk) (v : Value) (ks : List Int), Lx = (lp, rec .ready none) :: (DD, .deferred (some [])) :: (N ++ ((b2, .cells #[v] 99 (0, 0)) :: L)) ∧ Row 25 1 N v ks.length (ks.map (Value.int .u32)) ∧ (ks ++ tz.map fun e => kI e.key).Perm (es.map fun e => kI e.key))
    (fun Lx => ∃ (N : Chunk) (v : Value) (ks : List Int), Lx = (lp, rec .ready none) :: (DD, .deferred (some [])) :: (N ++ ((b2, .cells #[v] 99 (0, 0)) :: L)) ∧ Row 25 1 N v ks.length (ks.map (Value.int .u32)) ∧ ks.Perm (es.map fun e => kI e.key))
    _ hk ⟨[], _, [], rfl, Row.nil _ _, by simp⟩ ?_ w0).mono ?_ (fun _ _ h => h.elim)
  · rintro tz _ ⟨N, v, ks, rfl, hrow, hp⟩
    have sv := hrow.sng
    refine ⟨inferInstance, inferInstance, fun h => ⟨N, v, ks, rfl, hrow, by subst h; simpa using hp⟩, fun M A e B htz hze => ?_⟩
    have hlk : ks.length ≤ 1073741824 := by
      have := hp.length_eq
      simp only [List.length_append, List.length_map] at this
      omega
    refine VP.front (VP.yield1 hrec (by decide) (fun w0 => ?_))
    repeat' (first|refine Ga0 fun _=>?_|refine Ga1 ?_|refine Ga2 (fun _=>?_) fun _=>?_|refine Ga3 ?_|refine Ga4 fun _=>?_|fail)
    refine beginR ?_
    repeat' (first|refine Ga0 fun _=>?_|refine Ga1 ?_|refine Ga2 (fun _=>?_) fun _=>?_|refine Ga3 ?_|refine Ga4 fun _=>?_|fail)
    rename_i b10
    have hrn : Rd ((b10, Obj.cells #[Value.int .u32 (kI e.key)] 25 (0, 0)) :: (M ++ (lp, rec LoopState.busy none) :: (DD, Obj.deferred (some [])) :: (N ++ (b2, Obj.cells #[v] 99 (0, 0)) :: L))) 1 (.slice (some ⟨b10, 0, none⟩) 1 1) 1 [.int .u32 (kI e.key)] := Rd.blk (l := [_]) rfl (Nat.le_refl _)
    refine OW.append hrow inferInstance hrn (fun v hv => by rw [List.mem_singleton.1 hv]; infer_instance) (by omega) (fun v' N' hrow' => ?_)
    have sv' := hrow'.sng
    repeat' (first|refine Ga0 fun _=>?_|refine Ga1 ?_|refine Ga2 (fun _=>?_) fun _=>?_|refine Ga3 ?_|refine Ga4 fun _=>?_|fail)
    refine roundK.nrm ?_
    have hrow2 : Row 25 1 N' v' (ks ++ [kI e.key]).length ((ks ++ [kI e.key]).map (Value.int .u32)) := by simpa using hrow'
    refine ⟨[_], _, rfl, _, rfl, .inl ⟨rfl, N', v', ks ++ [kI e.key], rfl, hrow2, ?_⟩⟩
    rw [htz] at hp
    refine List.Perm.trans ?_ hp
    rw [List.map_append, List.map_append, List.map_cons, List.append_assoc]
    exact List.Perm.append_left _ (by
      rw [List.singleton_append]
      exact List.perm_middle.symm)
  · rintro u _ ⟨N, v, ks, rfl, hrow, hp⟩
    have sv := hrow.sng
    refine rangeK.nrm ?_
    repeat' (first|refine Ga0 fun _=>?_|refine Ga1 ?_|refine Ga2 (fun _=>?_) fun _=>?_|refine Ga3 ?_|refine Ga4 fun _=>?_|fail)
    exact bodyM.retM (N ++ L) (Res.of1 Tryz.results75) ⟨N, ks, rfl, hp, hrow⟩
theorem collectKeys (bx bp c : Nat) (es : List MapEntry) (L : Chunk) [h1 : InC L bx (.cells #[.map (some bp)] 54 (0, 0))] [h2 : InC L bp (.map es.toArray c)] (hk : KV .u32 es c) (hl : es.length ≤ 1073741824) :
    Fn1 Tryz.prog 57 [.func (.func 59) #[] #[.pointer (some ⟨bx, 0, none⟩)]] L
      (fun u L' => ∃ (N : Chunk) (ks : List Int), L' = N ++ L ∧ ks.Perm (es.map fun e => kI e.key) ∧ Row 25 1 N u ks.length (ks.map (Value.int .u32))) := by
  intro w0; refine Spec.enter1 Tryz.func57 rfl Tryz.ntmps57 (by decide) ?_
  have h1' := h1
  have h2' := h2
  repeat' (first|refine Ga0 fun _=>?_|refine Ga1 ?_|refine Ga2 (fun _=>?_) fun _=>?_|refine Ga3 ?_|refine Ga4 fun _=>?_|fail)
  refine OW.call (appendSeq bx bp c es _ hk hl) ?_
  rintro u _ ⟨N, ks, rfl, hp, hrow⟩
  have sv := hrow.sng
  repeat' (first|refine Ga0 fun _=>?_|refine Ga1 ?_|refine Ga2 (fun _=>?_) fun _=>?_|refine Ga3 ?_|refine Ga4 fun _=>?_|fail)
  exact bodyK.ret (Res.one Tryz.results57) ⟨N, ks, rfl, hp, hrow⟩
theorem sortedKeys (bx bp c : Nat) (es : List MapEntry) (L : Chunk) [h1 : InC L bx (.cells #[.map (some bp)] 54 (0, 0))] [h2 : InC L bp (.map es.toArray c)] (hk : KV .u32 es c) (hl : es.length ≤ 1073741824) :
    Fn1 Tryz.prog 43 [.func (.func 59) #[] #[.pointer (some ⟨bx, 0, none⟩)]] L
      (fun u L' => ∃ (N : Chunk) (ks : List Int), L' = N ++ L ∧ ks.Perm (es.map fun e => kI e.key) ∧ ks.Pairwise (· ≤ ·) ∧ Row 25 1 N u ks.length (ks.map (Value.int .u32))) := by
  intro w0; refine Spec.enter1 Tryz.func43 rfl Tryz.ntmps43 (by decide) ?_
  have h1' := h1
  have h2' := h2
  repeat' (first|refine Ga0 fun _=>?_|refine Ga1 ?_|refine Ga2 (fun _=>?_) fun _=>?_|refine Ga3 ?_|refine Ga4 fun _=>?_|fail)
  refine OW.call (collectKeys bx bp c es _ hk hl) ?_
  rintro u _ ⟨N, ks, rfl, hp, hrow⟩
  have sv := hrow.sng
  have hlen : ks.length < 4611686018427387904 := by
    have := hp.length_eq
    simp only [List.length_map] at this
    omega
  repeat' (first|refine Ga0 fun _=>?_|refine Ga1 ?_|refine Ga2 (fun _=>?_) fun _=>?_|refine Ga3 ?_|refine Ga4 fun _=>?_|fail)
  refine OW.call (sortU ks u N L hrow hlen) ?_
  rintro _ _ ⟨N', rfl, hrow'⟩
  repeat' (first|refine Ga0 fun _=>?_|refine Ga1 ?_|refine Ga2 (fun _=>?_) fun _=>?_|refine Ga3 ?_|refine Ga4 fun _=>?_|fail)
  have hpm := List.mergeSort_perm ks fun x y => decide (x ≤ y)
  have hpw := List.pairwise_mergeSort (le := fun (x y : Int) => decide (x ≤ y)) (fun a b c h1 h2 => by simp only [decide_eq_true_eq] at *; omega) (fun a b => by simp only [Bool.or_eq_true, decide_eq_true_eq]; omega) ks
  refine bodyK.ret (Res.one Tryz.results43) ⟨N', ks.mergeSort fun x y => decide (x ≤ y), rfl, hpm.trans hp, hpw.imp (fun h => by simpa using h), ?_⟩
  rw [hpm.length_eq]
  exact hrow'
end Go.Proofs.YtocjgcmgkaabiaaGreat

namespace Go.Proofs.YtocjgcmgkaabiaaGreat
open Go Go.Pw Go.Pw.Sc Go.Pw.Md
set_option maxRecDepth 100000
set_option maxHeartbeats 4000000
set_option synthInstance.maxHeartbeats 400000
set_option synthInstance.maxSize 2000
attribute [local irreducible] CW OW RW thenK blockK
attribute [local irreducible] scopeK loopK TRW ATW


@[reducible] def kn (p : Pc) : List Value := [.int .u32 p.ad, .int .i64 p.size, .int .i64 p.room]
def kcells (ps : List Pc) : List Value := ps.flatMap kn
theorem kcells_len (ps : List Pc) : (kcells ps).length = ps.length * 3 := by
  induction ps with
  | nil => rfl
  | cons p ps ih => simp only [kcells, List.flatMap_cons, List.length_append, List.length_cons, List.length_nil] at *; omega
theorem kcells_app (a b : List Pc) : kcells (a ++ b) = kcells a ++ kcells b := by simp [kcells]
theorem wf_len {m : Mod} (h : WF m) : m.L.length ≤ 1073741824 := by
  have key : ∀ l : List Pc, (∀ p ∈ l, PcOk p) → (l.length : Int) ≤ (l.map Pc.room).sum := by
    intro l
    induction l with
    | nil => intro _; simp
    | cons p l ih =>
      intro hok
      have := ih fun q hq => hok q (List.mem_cons_of_mem _ hq)
      have := (hok p (List.mem_cons_self ..)).room
      simp only [List.length_cons, List.map_cons, List.sum_cons]
      omega
  have h1 := key m.L h.ok
  have h2 := h.charge
  have h3 := h.quota1
  unfold Mod.charge at h2
  omega
theorem wf_ads {m : Mod} (h : WF m) : (m.L.map Pc.ad).Pairwise (· ≤ ·) := by
  rw [List.pairwise_map]
  refine List.Pairwise.imp_of_mem (fun {p q} hp hq hpq => ?_) h.apart
  have := (h.ok p hp).room
  omega
theorem modelPieces (bm bp : Nat) (m : Mod) (hwf : WF m) (D L : Chunk) [hm : InC L bm (.cells (mcells m bp).toArray 56 (0, 0))] [hD : MemC D L] (hr : MRest D bp m) :
    Fn1 Tryz.prog 22 [.pointer (some ⟨bm, 0, none⟩)] L (fun u L' => ∃ N, L' = N ++ L ∧ Row 73 3 N u m.L.length (kcells m.L)) := by
  intro w0; refine Spec.enter1 Tryz.func22 rfl Tryz.ntmps22 (by decide) ?_
  have hm' := hm
  obtain ⟨es, c, zs, h1, hk, hz, hp⟩ := hr
  have h1' : InC L bp (.map es.toArray c) := ⟨hD.out _ h1.out⟩
  have hlen := wf_len hwf
  have hpl := hp.length_eq
  have hkeys : es.map (fun e => kI e.key) = (zs.map (·.2)).map Pc.ad := by
    rw [hz.es, List.map_map, List.map_map]
    exact List.map_congr_left fun z hz' => by simp only [Function.comp_apply, (hz.at_ z hz').1, kI]
  have hel : es.length = m.L.length := by rw [hz.es, ← hpl]; simp
  repeat' (first|refine Ga0 fun _=>?_|refine Ga1 ?_|refine Ga2 (fun _=>?_) fun _=>?_|refine Ga3 ?_|refine Ga4 fun _=>?_|fail)
  refine OW.call (modelNone bm bp m _) ?_
  rintro _ _ ⟨rfl, rfl⟩
  repeat' (first|refine Ga0 fun _=>?_|refine Ga1 ?_|refine Ga2 (fun _=>?_) fun _=>?_|refine Ga3 ?_|refine Ga4 fun _=>?_|fail)
  refine OW.call (mapsKeys bp _) ?_
  rintro _ _ ⟨bx, rfl, rfl⟩
  repeat' (first|refine Ga0 fun _=>?_|refine Ga1 ?_|refine Ga2 (fun _=>?_) fun _=>?_|refine Ga3 ?_|refine Ga4 fun _=>?_|fail)
  refine OW.call (sortedKeys bx bp c es _ hk (by omega)) ?_
  rintro uk _ ⟨Nk, ks, rfl, hkp, hkw, hrk⟩
  have suk := hrk.sng
  have hks : ks = m.L.map Pc.ad := by
    refine List.Perm.eq_of_pairwise (le := fun a b : Int => a ≤ b) (fun a b _ _ h1 h2 => by omega) hkw (wf_ads hwf) (hkp.trans ?_)
    rw [hkeys]
    exact hp.map _
  subst hks
  have hkl : (m.L.map Pc.ad).length = m.L.length := by simp
  rw [hkl] at hrk
  obtain ⟨ak, ck, hke⟩ := hrk.slice
  subst hke
  repeat' (first|refine Ga0 fun _=>?_|refine Ga1 ?_|refine Ga2 (fun _=>?_) fun _=>?_|refine Ga3 ?_|refine Ga4 fun _=>?_|fail)
  refine CW.count m.L.length (fun i ρ ds L' => ds = [] ∧ (∃ X N v, L' = X ++ (N ++ (Nk ++ (bx, .cells #[.map (some bp)] 54 (0, 0)) :: L)) ∧ Row 73 3 N v i (kcells (m.L.take i)) ∧ Ev ρ 2 v) ∧ Ev ρ 0 (.pointer (some ⟨bm, 0, none⟩)) ∧ Ev ρ 12 (.slice ak m.L.length ck) ∧ Ev ρ 13 (.int .i64 m.L.length) ∧ Ev ρ 14 (.int .i64 i))
    ⟨rfl, ⟨[], [], _, rfl, Row.nil _ _, inferInstance⟩, inferInstance, inferInstance, inferInstance, inferInstance⟩ ?_
  rintro i ρ ds L' hi ⟨rfl, ⟨X, N, v, rfl, hrow, e2⟩, e0, e12, e13, e14⟩
  have sv := hrow.sng
  by_cases hlt : i < m.L.length
  · obtain ⟨bk, kk, capk, lk, ek, frk, hbe, hbin, hbc, hbn⟩ := hrk.rd.open1 (by omega)
    cases hbe
    have nk := hbn i (.int .u32 m.L[i].ad) hlt (by simp [hlt])
    obtain ⟨z, hz', hzp⟩ := List.mem_map.1 (hp.mem_iff.2 (List.getElem_mem hlt))
    obtain ⟨hkey, vz, hzv, hrd⟩ := hz.at_ z hz'
    have svz := hrd.sng
    have hze : z.1 ∈ es := by rw [hz.es]; exact List.mem_map.2 ⟨z, hz', rfl⟩
    have hfi := hk.find_of hze
    rw [hkey, hzv, hzp] at hfi
    simp only [kI] at hfi
    have htake : m.L.take (i + 1) = m.L.take i ++ [m.L[i]] := by rw [List.take_add_one, List.getElem?_eq_getElem hlt]; rfl
    generalize m.L[i] = p at *
    repeat' (first|refine Ga0 fun _=>?_|refine Ga1 ?_|refine Ga2 (fun _=>?_) fun _=>?_|refine Ga3 ?_|refine Ga4 fun _=>?_|fail)
    refine OW.lookAt (m := bp) (c := c) (es := es) hk.keys hfi ?_
    repeat' (first|refine Ga0 fun _=>?_|refine Ga1 ?_|refine Ga2 (fun _=>?_) fun _=>?_|refine Ga3 ?_|refine Ga4 fun _=>?_|fail)
    refine OW.fieldA (ft := 73) (off := 0) ⟨_, _, Tryz.underlying79, rfl, rfl, rfl⟩ ?_
    repeat' (first|refine Ga0 fun _=>?_|refine Ga1 ?_|refine Ga2 (fun _=>?_) fun _=>?_|refine Ga3 ?_|refine Ga4 fun _=>?_|fail)
    rename_i bt
    have hrn : Rd ((bt, Obj.cells (kn p).toArray 73 (0, 0)) :: (X ++ (N ++ (Nk ++ (bx, Obj.cells #[.map (some bp)] 54 (0, 0)) :: L)))) 3 (.slice (some ⟨bt, 0, none⟩) 1 1) 1 (kn p) := Rd.blk (l := kn p) rfl (Nat.le_refl _)
    refine OW.append hrow inferInstance hrn (fun v hv => by
      simp only [kn, List.mem_cons, List.not_mem_nil, or_false] at hv
      rcases hv with rfl | rfl | rfl <;> infer_instance) (by omega) (fun v' N' hrow' => ?_)
    have sv' := hrow'.sng
    have hrow2 : Row 73 3 N' v' (i + 1) (kcells (m.L.take (i + 1))) := by
      rw [htake, kcells_app]
      simpa [kcells] using hrow'
    repeat' (first|refine Ga0 fun _=>?_|refine Ga1 ?_|refine Ga2 (fun _=>?_) fun _=>?_|refine Ga3 ?_|refine Ga4 fun _=>?_|fail)
    exact ⟨hlt, rfl, ⟨_ :: X, N', v', rfl, hrow2, inferInstance⟩, inferInstance, inferInstance, inferInstance, by rw [Int.natCast_add]; infer_instance⟩
  · obtain rfl : i = m.L.length := by omega
    repeat' (first|refine Ga0 fun _=>?_|refine Ga1 ?_|refine Ga2 (fun _=>?_) fun _=>?_|refine Ga3 ?_|refine Ga4 fun _=>?_|fail)
    rw [List.take_length] at hrow
    exact bodyK.retD (N ++ L) (Res.one Tryz.results22) ⟨N, rfl, hrow⟩
end Go.Proofs.YtocjgcmgkaabiaaGreat

namespace Go.Proofs.YtocjgcmgkaabiaaGreat
open Go Go.Pw Go.Pw.Sc Go.Pw.Md
set_option maxRecDepth 100000
set_option maxHeartbeats 4000000
set_option synthInstance.maxHeartbeats 400000
set_option synthInstance.maxSize 2000
attribute [local irreducible] CW OW RW thenK blockK
attribute [local irreducible] scopeK loopK TRW ATW


theorem opR {x : OpM} (h : OpR0 x) : OpR x := ⟨h.kind, h.ad, h.size, h.mult, h.many⟩
theorem outR {o : OutM} (h : OutR0 o) : OutR o := ⟨h.errno, h.ad, h.n⟩
theorem num23 (x : Int) (L : Chunk) : Fn1 Tryz.prog 6 [.int .i64 x] L (fun u L' => u = .int .i64 x ∧ L = L') := by
  intro w0; refine Spec.enter1 Tryz.func6 rfl Tryz.ntmps6 (by decide) ?_
  repeat' (first|refine Ga0 fun _=>?_|refine Ga1 ?_|refine Ga2 (fun _=>?_) fun _=>?_|refine Ga3 ?_|refine Ga4 fun _=>?_|fail)
  exact bodyK.retD L (Res.one Tryz.results6) ⟨rfl, rfl⟩
theorem kind23 (x : Int) (L : Chunk) : Fn1 Tryz.prog 17 [.int .i64 x] L (fun u L' => u = .bool (decide (1 ≤ x ∧ x ≤ 7)) ∧ L = L') := by
  intro w0; refine Spec.enter1 Tryz.func17 rfl Tryz.ntmps17 (by decide) ?_
  repeat' (first|refine Ga0 fun _=>?_|refine Ga1 ?_|refine Ga2 (fun _=>?_) fun _=>?_|refine Ga3 ?_|refine Ga4 fun _=>?_|fail)
  · exact bodyK.retD L (Res.one Tryz.results17) ⟨by rw [decide_eq_true (by omega)], rfl⟩
  · exact bodyK.retD L (Res.one Tryz.results17) ⟨by rw [decide_eq_false (by omega)], rfl⟩
  · exact bodyK.retD L (Res.one Tryz.results17) ⟨by rw [decide_eq_false (by omega)], rfl⟩
theorem may23 (bm bp : Nat) (m : Mod) (hwf : WF m) (x : OpM) (hxr : OpR x) (o : OutM) (vx vb : Value) (D L : Chunk) {C : Chunk → Chunk} (hvx : BS L vx x.bytes) [hat : At L [(bm, .cells (mcells m bp).toArray 56 (0, 0))] C] [hD : MemC D (C [])] (hr : MRest D bp m)
    (hb : BS L vb o.bytes) (hor : OutR o) : Fn1 Tryz.prog 14 [.pointer (some ⟨bm, 0, none⟩), opV x vx, outV o vb] L (fun u L' => ∃ N b2, u = .bool ((Md.next m x o).2 && decide (nextE x = 0)) ∧ L' = N ++ C [(bm, .cells (mcells (after m x o) b2).toArray 56 (0, 0))] ∧ MRest (N ++ D) b2 (after m x o)) := by
  have sx := hvx.sng
  have svb := hb.sng
  obtain ⟨A, B, rfl, hC⟩ := hat.out
  obtain rfl : C = fun X => A ++ X ++ B := funext hC
  clear hat hC
  intro w0; refine Spec.enter3 Tryz.func14 rfl Tryz.ntmps14 (by decide) ?_
  have hfin : ∀ (N : Chunk) (b4 b5 : Nat × Obj) (b2 : Nat), MRest (N ++ D) b2 (after m x o) → MRest ((N ++ [b5, b4]) ++ D) b2 (after m x o) := fun N b4 b5 b2 h => by
    have : MemC (N ++ D) ((N ++ [b5, b4]) ++ D) := ⟨fun q hq => by
      simp only [List.mem_append] at hq ⊢
      rcases hq with h | h
      · exact .inl (.inl h)
      · exact .inr h⟩
    exact h.to
  repeat' (first|refine Ga0 fun _=>?_|refine Ga1 ?_|refine Ga2 (fun _=>?_) fun _=>?_|refine Ga3 ?_|refine Ga4 fun _=>?_|fail)
  rename_i b4 b5
  generalize h4 : (b4, Obj.cells #[Value.int .i64 x.kind, Value.int .u32 x.ad, Value.int .u64 x.size, Value.int .u64 x.mult, Value.int .u64 x.many, vx] 29 (0, 0)) = o4
  generalize h5 : (b5, Obj.cells #[Value.int .i64 o.errno, Value.int .u32 o.ad, Value.int .i64 o.n, vb] 32 (0, 0)) = o5
  have hcall := modelDo bm bp m hwf x hxr o vx vb D (o5 :: o4 :: (A ++ [(bm, Obj.cells (mcells m bp).toArray 56 (0, 0))] ++ B)) (C := fun X => o5 :: o4 :: (A ++ X ++ B)) hvx.to (hat := ⟨o5 :: o4 :: A, B, by simp, fun X => by simp⟩) (hD := ⟨fun q hq => List.mem_cons_of_mem _ (List.mem_cons_of_mem _ (hD.out q hq))⟩) hr hb.to hor
  refine OW.call hcall ?_
  rintro _ _ ⟨N, b2, rfl, rfl, hrest⟩
  have hrest2 := hfin N o4 o5 b2 hrest
  have hN : N ++ o5 :: o4 :: (A ++ [(bm, Obj.cells (mcells (after m x o) b2).toArray 56 (0, 0))] ++ B) = (N ++ [o5, o4]) ++ (A ++ [(bm, Obj.cells (mcells (after m x o) b2).toArray 56 (0, 0))] ++ B) := by simp
  simp only
  rw [hN]
  cases hq : (Md.next m x o).2 with
  | false =>
    repeat' (first|refine Ga0 fun _=>?_|refine Ga1 ?_|refine Ga2 (fun _=>?_) fun _=>?_|refine Ga3 ?_|refine Ga4 fun _=>?_|fail)
    exact bodyK.ret (Res.one Tryz.results14) ⟨N ++ [o5, o4], b2, rfl, rfl, hrest2⟩
  | true =>
    repeat' (first|refine Ga0 fun _=>?_|refine Ga1 ?_|refine Ga2 (fun _=>?_) fun _=>?_|refine Ga3 ?_|refine Ga4 fun _=>?_|fail)
    refine OW.call (num23 _ _) ?_
    rintro _ _ ⟨rfl, rfl⟩
    by_cases he : nextE x = 0
    · rw [decide_eq_true he]
      repeat' (first|refine Ga0 fun _=>?_|refine Ga1 ?_|refine Ga2 (fun _=>?_) fun _=>?_|refine Ga3 ?_|refine Ga4 fun _=>?_|fail)
      exact bodyK.ret (Res.one Tryz.results14) ⟨N ++ [o5, o4], b2, rfl, rfl, hrest2⟩
    · rw [decide_eq_false he]
      repeat' (first|refine Ga0 fun _=>?_|refine Ga1 ?_|refine Ga2 (fun _=>?_) fun _=>?_|refine Ga3 ?_|refine Ga4 fun _=>?_|fail)
      exact bodyK.ret (Res.one Tryz.results14) ⟨N ++ [o5, o4], b2, rfl, rfl, hrest2⟩

def fewOk (a : ActM) : Prop := a.op.many ≤ 300 ∨ 16777216 < a.op.many
theorem few23 (v : Value) (acts : List ActM) (mx : Int) (L : Chunk) (h : AS L v acts) : Fn1 Tryz.prog 5 [v, .int .i64 mx] L (fun u L' => (∃ f, u = .bool f ∧ (f = true → ∀ a ∈ acts, fewOk a)) ∧ L = L') := by
  have hl := h.len
  obtain ⟨a, c, rfl⟩ := h.slice
  intro w0; refine Spec.enter2 Tryz.func5 rfl Tryz.ntmps5 (by decide) ?_
  repeat' (first|refine Ga0 fun _=>?_|refine Ga1 ?_|refine Ga2 (fun _=>?_) fun _=>?_|refine Ga3 ?_|refine Ga4 fun _=>?_|fail)
  refine CW.count acts.length (fun i ρ ds L' => ds = [] ∧ (∃ X, L' = X ++ L) ∧ (∀ a ∈ acts.take i, fewOk a) ∧ Ev ρ 0 (.slice a acts.length c) ∧ Ev ρ 1 (.int .i64 mx) ∧ Ev ρ 5 (.int .i64 (i : Int))) ⟨rfl, ⟨[], rfl⟩, by simp, inferInstance, inferInstance, inferInstance⟩ ?_
  rintro i ρ ds L' hi ⟨rfl, ⟨X, rfl⟩, hg, e0, e1, e5⟩
  by_cases hlt : i < acts.length
  · obtain ⟨bk, kk, capk, lk, ek, frk, hbe, hbin, hbc, hbn⟩ := h.open (by omega)
    cases hbe
    obtain ⟨cc, hcut, vx, vb, rfl, hvx, hvb, hor, hou⟩ := hbn i hlt
    have hc1 := cutSub hcut 0 6 (by decide)
    have hc2 := cutSub (cutSub hcut 6 4 (by decide)) 3 1 (by decide)
    obtain ⟨ax, cx, rfl⟩ := hvx.slice
    obtain ⟨ab, cb, rfl⟩ := hvb.slice
    have n2 := hc2.nth rfl
    simp only [Nat.add_zero] at hc1
    have hc1' : CutL lk (kk + i * 11) 6 (opC acts[i].op (.slice ax acts[i].op.bytes.length cx)) := hc1
    have hsnoc : fewOk acts[i] → ∀ a ∈ acts.take (i + 1), fewOk a := fun h a ha => by
      rw [List.take_add_one, List.getElem?_eq_getElem hlt] at ha
      rcases List.mem_append.1 ha with ha | ha
      · exact hg a ha
      · rw [List.mem_singleton.1 ha]; exact h
    obtain ⟨r1, r2⟩ := hor.many
    obtain ⟨q1, q2⟩ := hor.size
    have hb1 := hvx.len
    have hb2 := hvb.len
    unfold fewOk at hsnoc
    generalize acts[i] = aa at *
    repeat' (first|refine Ga0 fun _=>?_|refine Ga1 ?_|refine Ga2 (fun _=>?_) fun _=>?_|refine Ga3 ?_|refine Ga4 fun _=>?_|fail)
    all_goals first
      | exact bodyK.retD L (Res.one Tryz.results5) ⟨⟨false, rfl, fun h => (by cases h)⟩, rfl⟩
      | exact ⟨hlt, rfl, ⟨_ :: X, rfl⟩, hsnoc (by omega), inferInstance, inferInstance, by rw [Int.natCast_add]; infer_instance⟩
  · obtain rfl : i = acts.length := by omega
    rw [List.take_length] at hg
    repeat' (first|refine Ga0 fun _=>?_|refine Ga1 ?_|refine Ga2 (fun _=>?_) fun _=>?_|refine Ga3 ?_|refine Ga4 fun _=>?_|fail)
    all_goals exact bodyK.retD L (Res.one Tryz.results5) ⟨⟨_, rfl, fun _ => hg⟩, rfl⟩
end Go.Proofs.YtocjgcmgkaabiaaGreat

namespace Go.Proofs.YtocjgcmgkaabiaaGreat
open Go Go.Pw Go.Pw.Sc Go.Pw.Md
set_option maxRecDepth 100000
set_option maxHeartbeats 4000000
set_option synthInstance.maxHeartbeats 400000
set_option synthInstance.maxSize 2000
attribute [local irreducible] CW OW RW thenK blockK
attribute [local irreducible] scopeK loopK TRW ATW


theorem doC (bm bp : Nat) (m : Mod) (hwf : WF m) (x : OpM) (hxr : OpR x) (o : OutM) (vx vb : Value) (L : Chunk) {C : Chunk → Chunk} (hvx : BS L vx x.bytes) [hat : At L [(bm, .cells (mcells m bp).toArray 56 (0, 0))] C] (hr : MRest (C []) bp m)
    (hb : BS L vb o.bytes) (hor : OutR o) : Fn1 Tryz.prog 16 [.pointer (some ⟨bm, 0, none⟩), opV x vx, outV o vb] L (fun u L' => ∃ N b2, u = .tuple #[.bool (Md.next m x o).2, .int .i64 (nextE x)] ∧ L' = N ++ C [(bm, .cells (mcells (after m x o) b2).toArray 56 (0, 0))] ∧ MRest (N ++ C []) b2 (after m x o)) :=
  modelDo bm bp m hwf x hxr o vx vb (C []) L hvx (hD := ⟨fun _ h => h⟩) hr hb hor
theorem mayC (bm bp : Nat) (m : Mod) (hwf : WF m) (x : OpM) (hxr : OpR x) (o : OutM) (vx vb : Value) (L : Chunk) {C : Chunk → Chunk} (hvx : BS L vx x.bytes) [hat : At L [(bm, .cells (mcells m bp).toArray 56 (0, 0))] C] (hr : MRest (C []) bp m)
    (hb : BS L vb o.bytes) (hor : OutR o) {q : Bool} (hq : ((Md.next m x o).2 && decide (nextE x = 0)) = q) : Fn1 Tryz.prog 14 [.pointer (some ⟨bm, 0, none⟩), opV x vx, outV o vb] L (fun u L' => ∃ N b2, u = .bool q ∧ L' = N ++ C [(bm, .cells (mcells (after m x o) b2).toArray 56 (0, 0))] ∧ MRest (N ++ C []) b2 (after m x o)) := by
  have := may23 bm bp m hwf x hxr o vx vb (C []) L hvx (hD := ⟨fun _ h => h⟩) hr hb hor
  rw [hq] at this
  exact this

@[reducible] def wx1 : OpM := ⟨1, 0, 10, 1, 0, []⟩
@[reducible] def wx2 : OpM := ⟨1, 0, 80, 1, 0, []⟩
@[reducible] def wx3 : OpM := ⟨3, 1048848, 0, 0, 0, []⟩
@[reducible] def wx4 : OpM := ⟨5, 1048896, 0, 0, 0, []⟩
@[reducible] def wo1 : OutM := ⟨0, 1048848, 0, []⟩
@[reducible] def wo2 : OutM := ⟨0, 1048896, 0, []⟩
@[reducible] def wo3 : OutM := ⟨301, 0, 0, []⟩
@[reducible] def wo4 : OutM := ⟨320, 0, 0, []⟩
@[reducible] def wo5 : OutM := ⟨0, 0, 0, []⟩
@[reducible] def wo6 : OutM := ⟨0, 0, 16, []⟩
@[reducible] def wm0 : Mod := ⟨0, 100, []⟩
@[reducible] def wm1 : Mod := after wm0 wx1 wo1
@[reducible] def wm2 : Mod := after wm1 wx1 wo1
@[reducible] def wm3 : Mod := after wm2 wx1 wo2
@[reducible] def wm4 : Mod := after wm3 wx1 wo3
@[reducible] def wm5 : Mod := after wm4 wx2 wo3
@[reducible] def wm6 : Mod := after wm5 wx3 wo4
@[reducible] def wm7 : Mod := after wm6 wx3 wo5
theorem wq1 : ((Md.next wm0 wx1 wo1).2 && decide (nextE wx1 = 0)) = true := by decide +kernel
theorem wq2 : ((Md.next wm1 wx1 wo1).2 && decide (nextE wx1 = 0)) = false := by decide +kernel
theorem wq3 : ((Md.next wm2 wx1 wo2).2 && decide (nextE wx1 = 0)) = true := by decide +kernel
theorem wq4 : ((Md.next wm3 wx1 wo3).2 && decide (nextE wx1 = 0)) = false := by decide +kernel
theorem wq5 : ((Md.next wm4 wx2 wo3).2 && decide (nextE wx2 = 0)) = true := by decide +kernel
theorem wq6 : ((Md.next wm5 wx3 wo4).2 && decide (nextE wx3 = 0)) = false := by decide +kernel
theorem wq7 : ((Md.next wm6 wx3 wo5).2 && decide (nextE wx3 = 0)) = true := by decide +kernel
theorem wq8 : ((Md.next wm7 wx4 wo6).2 && decide (nextE wx4 = 0)) = true := by decide +kernel
theorem ww0 : WF wm0 := start_wf (by decide)
theorem wwn {m : Mod} (h : WF m) (x : OpM) (o : OutM) (h0 : 0 ≤ o.ad) (h1 : x.bytes = []) (h2 : o.bytes = []) : WF (after m x o) := after_wf h h0 (by rw [h1]; intro _ h; cases h) (by rw [h2]; intro _ h; cases h)
theorem ww1 : WF wm1 := wwn ww0 wx1 wo1 (by decide) rfl rfl
theorem ww2 : WF wm2 := wwn ww1 wx1 wo1 (by decide) rfl rfl
theorem ww3 : WF wm3 := wwn ww2 wx1 wo2 (by decide) rfl rfl
theorem ww4 : WF wm4 := wwn ww3 wx1 wo3 (by decide) rfl rfl
theorem ww5 : WF wm5 := wwn ww4 wx2 wo3 (by decide) rfl rfl
theorem ww6 : WF wm6 := wwn ww5 wx3 wo4 (by decide) rfl rfl
theorem ww7 : WF wm7 := wwn ww6 wx3 wo5 (by decide) rfl rfl
theorem wr1 : OpR wx1 := ⟨by decide, by decide, by decide, by decide, by decide⟩
theorem wr2 : OpR wx2 := ⟨by decide, by decide, by decide, by decide, by decide⟩
theorem wr3 : OpR wx3 := ⟨by decide, by decide, by decide, by decide, by decide⟩
theorem wr4 : OpR wx4 := ⟨by decide, by decide, by decide, by decide, by decide⟩
theorem wt1 : OutR wo1 := ⟨by decide, by decide, by decide⟩
theorem wt2 : OutR wo2 := ⟨by decide, by decide, by decide⟩
theorem wt3 : OutR wo3 := ⟨by decide, by decide, by decide⟩
theorem wt4 : OutR wo4 := ⟨by decide, by decide, by decide⟩
theorem wt5 : OutR wo5 := ⟨by decide, by decide, by decide⟩
theorem wt6 : OutR wo6 := ⟨by decide, by decide, by decide⟩

theorem works23 (L : Chunk) : Fn1 Tryz.prog 7 [] L (fun u L' => u = .bool true ∧ L = L') := by
  intro w0; refine Spec.enter0 Tryz.func7 rfl Tryz.ntmps7 ?_
  repeat' (first|refine Ga0 fun _=>?_|refine Ga1 ?_|refine Ga2 (fun _=>?_) fun _=>?_|refine Ga3 ?_|refine Ga4 fun _=>?_|fail)
  refine OW.call (modelNew 0 100 _) ?_
  intro u L' hu
  rw [if_pos (by decide)] at hu
  obtain ⟨bn, bp, rfl, rfl⟩ := hu
  repeat' (first|refine Ga0 fun _=>?_|refine Ga1 ?_|refine Ga2 (fun _=>?_) fun _=>?_|refine Ga3 ?_|refine Ga4 fun _=>?_|fail)
  refine OW.call (num23 _ _) ?_
  rintro _ _ ⟨rfl, rfl⟩
  repeat' (first|refine Ga0 fun _=>?_|refine Ga1 ?_|refine Ga2 (fun _=>?_) fun _=>?_|refine Ga3 ?_|refine Ga4 fun _=>?_|fail)
  refine OW.call (mayC bn bp wm0 ww0 wx1 wr1 wo1 (.slice none 0 0) (.slice none 0 0) _ (BS.nil _) ?_ (BS.nil _) wt1 wq1) ?_
  · exact ⟨[], 0, [], inferInstance, KV.nil _, ⟨rfl, fun _ h => (by cases h)⟩, .refl _⟩
  rintro _ _ ⟨N1, b1, rfl, rfl, h1⟩
  repeat' (first|refine Ga0 fun _=>?_|refine Ga1 ?_|refine Ga2 (fun _=>?_) fun _=>?_|refine Ga3 ?_|refine Ga4 fun _=>?_|fail)
  refine OW.call (mayC bn b1 wm1 ww1 wx1 wr1 wo1 (.slice none 0 0) (.slice none 0 0) _ (BS.nil _) h1 (BS.nil _) wt1 wq2) ?_
  rintro _ _ ⟨N2, b2, rfl, rfl, h2⟩
  repeat' (first|refine Ga0 fun _=>?_|refine Ga1 ?_|refine Ga2 (fun _=>?_) fun _=>?_|refine Ga3 ?_|refine Ga4 fun _=>?_|fail)
  refine OW.call (mayC bn b2 wm2 ww2 wx1 wr1 wo2 (.slice none 0 0) (.slice none 0 0) _ (BS.nil _) h2 (BS.nil _) wt2 wq3) ?_
  rintro _ _ ⟨N3, b3, rfl, rfl, h3⟩
  repeat' (first|refine Ga0 fun _=>?_|refine Ga1 ?_|refine Ga2 (fun _=>?_) fun _=>?_|refine Ga3 ?_|refine Ga4 fun _=>?_|fail)
  refine OW.call (mayC bn b3 wm3 ww3 wx1 wr1 wo3 (.slice none 0 0) (.slice none 0 0) _ (BS.nil _) h3 (BS.nil _) wt3 wq4) ?_
  rintro _ _ ⟨N4, b4, rfl, rfl, h4⟩
  repeat' (first|refine Ga0 fun _=>?_|refine Ga1 ?_|refine Ga2 (fun _=>?_) fun _=>?_|refine Ga3 ?_|refine Ga4 fun _=>?_|fail)
  refine OW.call (mayC bn b4 wm4 ww4 wx2 wr2 wo3 (.slice none 0 0) (.slice none 0 0) _ (BS.nil _) h4 (BS.nil _) wt3 wq5) ?_
  rintro _ _ ⟨N5, b5, rfl, rfl, h5⟩
  repeat' (first|refine Ga0 fun _=>?_|refine Ga1 ?_|refine Ga2 (fun _=>?_) fun _=>?_|refine Ga3 ?_|refine Ga4 fun _=>?_|fail)
  refine OW.call (mayC bn b5 wm5 ww5 wx3 wr3 wo4 (.slice none 0 0) (.slice none 0 0) _ (BS.nil _) h5 (BS.nil _) wt4 wq6) ?_
  rintro _ _ ⟨N6, b6, rfl, rfl, h6⟩
  repeat' (first|refine Ga0 fun _=>?_|refine Ga1 ?_|refine Ga2 (fun _=>?_) fun _=>?_|refine Ga3 ?_|refine Ga4 fun _=>?_|fail)
  refine OW.call (mayC bn b6 wm6 ww6 wx3 wr3 wo5 (.slice none 0 0) (.slice none 0 0) _ (BS.nil _) h6 (BS.nil _) wt5 wq7) ?_
  rintro _ _ ⟨N7, b7, rfl, rfl, h7⟩
  repeat' (first|refine Ga0 fun _=>?_|refine Ga1 ?_|refine Ga2 (fun _=>?_) fun _=>?_|refine Ga3 ?_|refine Ga4 fun _=>?_|fail)
  refine OW.call (mayC bn b7 wm7 ww7 wx4 wr4 wo6 (.slice none 0 0) (.slice none 0 0) _ (BS.nil _) h7 (BS.nil _) wt6 wq8) ?_
  rintro _ _ ⟨N8, b8, rfl, rfl, h8⟩
  repeat' (first|refine Ga0 fun _=>?_|refine Ga1 ?_|refine Ga2 (fun _=>?_) fun _=>?_|refine Ga3 ?_|refine Ga4 fun _=>?_|fail)
  exact bodyK.retD L (Res.one Tryz.results7) ⟨rfl, rfl⟩
end Go.Proofs.YtocjgcmgkaabiaaGreat
