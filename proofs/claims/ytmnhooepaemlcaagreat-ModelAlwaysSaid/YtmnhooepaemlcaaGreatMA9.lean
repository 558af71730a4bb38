/-
  For every input the law ModelAlways returns true, and each argument reads behind the call as it read before. This text holds lemmas for it (part 9).
  Conditions: none.
-/
import Derived.Test.YtmnhooepaemlcaaGreatMA8
set_option linter.all false
namespace Go.Pw
section
variable {P : Program} {ρ : Env} {L : Chunk} {ty : TypeId}
theorem ef_grow {t t2 e : TypeId} {s bytes n cap m : Nat} {x y : Operand} {base : Option Addr} {u : Value} {xs news : List Value} {z : Value} {zs : List Value}
    (ht : Und P t (.slice e)) (ht2 : Und P t2 (.slice e)) (hz : Siz P e s) (hzv : Zer P e z) (hzc : CellsL z zs) (hzl : zs.length = s) (hby : Byt P e bytes) (hbp : 0 < bytes)
    (hx : EvO ρ x (.slice base n cap)) (hy : EvO ρ y u) (hrd : Rd L s u m news) (hbase : Rd L s (.slice base n cap) n xs) (hcap : cap < n + m) (hfit : (n + m) * bytes ≤ 140737488355328) :
    Ef P ρ L (.call { callee := .builtin .append, args := #[x, y], argTypes := #[t, t2] }) ty (fun v' L' => ∃ N', L' = N' ++ L ∧ Row e s N' v' (n + m) (xs ++ news)) noPanic := by
  refine ⟨fun c h => (by cases h), fun w0 w rd a next Q o ho hty ha hst hn _ => ?_⟩
  have hnm : n + m ≤ 140737488355328 := Nat.le_trans (Nat.le_mul_of_pos_right _ hbp) hfit
  have hlen : (xs ++ news).length = (n + m) * s := by rw [List.length_append, hbase.1, hrd.1, Nat.add_mul]
  obtain ⟨i, hi, hib⟩ := hby.out
  have hti : ∀ w, (typeInfo e).run P w = .ok i w := fun w => by simp [typeInfo, hi]
  have hunfold : ∀ r, (Builtin.append_ #[t, t2] o.type #[.slice base n cap, u]).run P w = r → (execOp (ev ρ) o).run P w = r.andThen fun v w' => .ok (.value v) w' := fun r hr => by
    unfold execOp
    simp only [ho, resolve, invoke, builtin, Sem.run_bind, Sem.run_pure, Result.andThen_ok, List.map_toArray, List.map_cons, List.map_nil, hx.out, hy.out, hr]
  have hlenu := lenOf_rd (P := P) (w := w) hrd
  have hpd : Pn w.drew L := hst.pn
  have hcellsD := run_firstCells_rd (P := P) hrd hpd
  have holdD := run_firstCells_rd (P := P) hbase hpd
  have hn1 : ¬ (n + m ≤ cap) := by omega
  have hn2 : ¬ ((9223372036854775807 : Int) < (n : Int) + (m : Int) ∧ i.bytes = 0) := by omega
  have hn3 : ¬ (281474976710656 < Builtin.nextslicecap (n + m) cap * i.bytes) := by
    have := growslice_fits hcap (by rw [hib]; exact hfit : (n + m) * i.bytes ≤ 140737488355328); omega
  have hK : n + m ≤ grownCap w (n + m) cap e := grownCap_ge w _ _ _
  have hrun : (Builtin.append_ #[t, t2] o.type #[.slice base n cap, u]).run P w = .ok (.slice (some ⟨w.heap.size, 0, none⟩) (n + m) (grownCap w (n + m) cap e))
      (w.drew.alloc (.cells (xs.toArray ++ (news.toArray ++ Builtin.zeroCells z.cells (grownCap w (n + m) cap e - (n + m)))) e)) := by
    unfold Builtin.append_
    simp [run_underlying ht.out, run_underlying ht2.out, hz.out, hlenu, hn1, hti, hn2, hn3, choose, Sem.run, Question.forced, askRoom, newRow, newObj]
    simp [holdD, hcellsD, hzv.out, grownCap]
  rw [hunfold _ hrun]
  refine hn _ _ ([(w.heap.size, .cells (xs.toArray ++ (news.toArray ++ Builtin.zeroCells z.cells (grownCap w (n + m) cap e - (n + m)))) e (0, 0))] ++ L) ?_ ⟨_, rfl, hlen, .inr ⟨w.heap.size, grownCap w (n + m) cap e, (Builtin.zeroCells z.cells (grownCap w (n + m) cap e - (n + m))).toList, rfl, ?_, hK, ?_⟩⟩
  · exact St.alloc (w := w.drew) hst.drew _
  · simp
  · rw [List.length_append, hlen, hzc.out, Array.length_toList, length_zeroCells, hzl, ← Nat.add_mul]
    congr 1
    omega
theorem ef_append0 {t t2 e : TypeId} {s bytes m : Nat} {x y : Operand} {base : Option Addr} {u : Value} {news : List Value} {z : Value} {zs : List Value}
    (ht : Und P t (.slice e)) (ht2 : Und P t2 (.slice e)) (hz : Siz P e s) (hzv : Zer P e z) (hzc : CellsL z zs) (hzl : zs.length = s) (hby : Byt P e bytes) (hbp : 0 < bytes)
    (hx : EvO ρ x (.slice base 0 0)) (hy : EvO ρ y u) (hrd : Rd L s u m news) (hfit : m * bytes ≤ 140737488355328) :
    Ef P ρ L (.call { callee := .builtin .append, args := #[x, y], argTypes := #[t, t2] }) ty (fun v' L' => (m = 0 ∧ v' = .slice base 0 0 ∧ L' = L) ∨ (m ≠ 0 ∧ ∃ N', L' = N' ++ L ∧ Row e s N' v' m news)) noPanic := by
  have hbase : Rd L s (.slice base 0 0) 0 [] := ⟨by simp, .inl ⟨⟨_, _, rfl⟩, rfl⟩⟩
  by_cases hm : m = 0
  · refine ⟨fun c h => (by cases h), fun w0 w rd a next Q o ho hty ha hst hn _ => ?_⟩
    subst hm
    have hnews : news = [] := List.eq_nil_of_length_eq_zero (by simpa using hrd.1)
    subst hnews
    have hlenu := lenOf_rd (P := P) (w := w) hrd
    have hcells := run_firstCells_rd (P := P) hrd hst.pn
    have hrun : (Builtin.append_ #[t, t2] o.type #[.slice base 0 0, u]).run P w = .ok (.slice base 0 0) w := by
      unfold Builtin.append_
      cases base with
      | none => simp [run_underlying ht.out, run_underlying ht2.out, hz.out, hlenu, hcells]
      | some ad => simp [run_underlying ht.out, run_underlying ht2.out, hz.out, hlenu, hcells, storeCells]
    unfold execOp
    simp only [ho, resolve, invoke, builtin, Sem.run_bind, Sem.run_pure, Result.andThen_ok, List.map_toArray, List.map_cons, List.map_nil, hx.out, hy.out, hrun]
    exact hn _ w L hst (.inl ⟨rfl, rfl, rfl⟩)
  · have h := ef_grow (P := P) (ty := ty) ht ht2 hz hzv hzc hzl hby hbp hx hy hrd hbase (by omega) (by simpa using hfit)
    refine ⟨h.1, fun w0 w rd a next Q o ho hty ha hst hn hp => h.2 w0 w rd a next Q o ho hty ha hst (fun v w' L' hs h => hn v w' L' hs (.inr ⟨hm, ?_⟩)) hp⟩
    obtain ⟨N', h1, h2⟩ := h
    exact ⟨N', h1, by simpa using h2⟩
variable {w0 : World} {rd : Option Nat} {nt : Nat} {K : Post} {ds : List Deferred} {R : Chunk} {ops : Array Oper} {l : List Oper} {d : Nat} {pos : String} {after : Array Edge}
theorem RW.append0 {t t2 e : TypeId} {s bytes m : Nat} {x y : Operand} {base : Option Addr} {u : Value} {news : List Value} {z : Value} {zs : List Value} {g : Option (Nat × Bool)}
    [hg : GdT ops ρ g] [hx : EvO ρ x (.slice base 0 0)] [hy : EvO ρ y u] [ht : Und P t (.slice e)] [ht2 : Und P t2 (.slice e)] [hz : Siz P e s] [hzv : Zer P e z] [hzc : CellsL z zs] [hzl : LenL zs s] [hby : Byt P e bytes] [hbp : NeNat bytes 0]
    (hrd : Rd L s u m news) (hfit : m * bytes ≤ 140737488355328)
    (h0 : m = 0 → ∃ R', (∀ p ∈ R, p ∈ R') ∧ (∀ p ∈ R', p ∈ L) ∧ RW P w0 rd nt ops K l R' (upd ρ d (.slice base 0 0)) ds L)
    (h1 : ∀ v' N', m ≠ 0 → Row e s N' v' m news → ∃ R', (∀ p ∈ R, p ∈ R') ∧ (∀ p ∈ R', p ∈ N' ++ L) ∧ RW P w0 rd nt ops K l R' (upd ρ d v') ds (N' ++ L)) :
    RW P w0 rd nt ops K (⟨some d, .call { callee := .builtin .append, args := #[x, y], argTypes := #[t, t2] }, ty, pos, after, g⟩ :: l) R ρ ds L :=
  RW.eff hg.out rfl (ef_append0 ht ht2 hz hzv hzc hzl.out hby (Nat.pos_of_ne_zero hbp.ne) hx hy hrd hfit) (fun v' L' h => by
    rcases h with ⟨hm, rfl, rfl⟩ | ⟨hm, N', rfl, hrow⟩
    · exact h0 hm
    · exact h1 v' N' hm hrow) (fun _ _ h => h.elim)
theorem CW.cutB {c : Code} {id : Nat} {N : Env → List Deferred → Chunk → Prop} (E : Env → List Deferred → Chunk → Prop) (next : ∀ ρ ds L, E ρ ds L → N ρ ds L)
    (h : ∀ N' : Env → List Deferred → Chunk → Prop, (∀ ρ ds L, E ρ ds L → N' ρ ds L) → CW P w0 rd nt c (blockK id (thenK N' K)) ρ ds L) : CW P w0 rd nt c (blockK id (thenK N K)) ρ ds L := h N next
theorem CW.cutK {c : Code} {N : Env → List Deferred → Chunk → Prop} (E : Env → List Deferred → Chunk → Prop) (next : ∀ ρ ds L, E ρ ds L → N ρ ds L)
    (h : ∀ N' : Env → List Deferred → Chunk → Prop, (∀ ρ ds L, E ρ ds L → N' ρ ds L) → CW P w0 rd nt c (thenK N' K) ρ ds L) : CW P w0 rd nt c (thenK N K) ρ ds L := h N next
end
end Go.Pw
namespace Go.Pw
/-- What was known lies behind. -/
class Sfx (L' L : Chunk) : Prop where out : ∃ X, L' = X ++ L
instance (priority := high) sfxRefl {L : Chunk} : Sfx L L := ⟨[], rfl⟩
instance sfxCons {L L' : Chunk} {p : Nat × Obj} [h : Sfx L' L] : Sfx (p :: L') L := ⟨let ⟨X, e⟩ := h.out; ⟨p :: X, by rw [e]; rfl⟩⟩
instance sfxApp {L L' N : Chunk} [h : Sfx L' L] : Sfx (N ++ L') L := ⟨let ⟨X, e⟩ := h.out; ⟨N ++ X, by rw [e, List.append_assoc]⟩⟩
end Go.Pw

namespace Go.Proofs.YtmnhooepaemlcaaGreat
open Go Go.Pw Go.Pw.Sc Go.Pw.Md
set_option maxRecDepth 100000
set_option maxHeartbeats 4000000
set_option synthInstance.maxHeartbeats 400000
set_option synthInstance.maxSize 2000
attribute [local irreducible] CW OW RW thenK blockK
attribute [local irreducible] scopeK loopK TRW ATW


/-- What stands when the acts have been looked at. -/
structure Fit (a0 a1 : Int) (acts : List ActM) (x : OpM) : Prop where
  good : 0 ≤ a0 ∧ a0 < 4 ∧ 0 ≤ a1 ∧ a1 ≤ 1073741824
  kind : 1 ≤ x.kind ∧ x.kind ≤ 7
  many : x.many ≤ 300 ∨ 16777216 < x.many
theorem outZero : OutR0 ⟨0, 0, 0, []⟩ := ⟨by decide, by decide, by decide⟩
@[reducible] def actC (x : OpM) (vx : Value) : List Value := [.int .i64 x.kind, .int .u32 x.ad, .int .u64 x.size, .int .u64 x.mult, .int .u64 x.many, vx, .int .i64 0, .int .u32 0, .int .i64 0, .slice none 0 0, .bool false]
theorem actOne {L : Chunk} {x : OpM} {vx : Value} (hvx : BS L vx x.bytes) (hx : OpR x) : LAt 11 (ActAt L) (actC x vx) [⟨x, ⟨0, 0, 0, []⟩, false⟩] :=
  LAt.one rfl ⟨vx, .slice none 0 0, rfl, hvx, BS.nil _, ⟨hx.kind, hx.ad, hx.size, hx.mult, hx.many⟩, outZero⟩
def outs0 (a : Int) : List OutM := [okO, errO 2, errO 4, errO 320, errO 301, errO 171, ⟨0, a, 0, []⟩]
@[reducible] def outs0C (a : Int) : List Value := [.int .i64 0, .int .u32 0, .int .i64 0, .slice none 0 0, .int .i64 2, .int .u32 0, .int .i64 0, .slice none 0 0, .int .i64 4, .int .u32 0, .int .i64 0, .slice none 0 0, .int .i64 320, .int .u32 0, .int .i64 0, .slice none 0 0, .int .i64 301, .int .u32 0, .int .i64 0, .slice none 0 0, .int .i64 171, .int .u32 0, .int .i64 0, .slice none 0 0, .int .i64 0, .int .u32 a, .int .i64 0, .slice none 0 0]
theorem outAt0 {L : Chunk} {e a n : Int} (h1 : inR .i64 e) (h2 : inR .u32 a) (h3 : inR .i64 n) : OutAt L [.int .i64 e, .int .u32 a, .int .i64 n, .slice none 0 0] ⟨e, a, n, []⟩ := ⟨.slice none 0 0, rfl, BS.nil _, ⟨h1, h2, h3⟩⟩
theorem outs0At {L : Chunk} {a : Int} (h : inR .u32 a) : LAt 4 (OutAt L) (outs0C a) (outs0 a) :=
  ⟨[_, _, _, _], _, rfl, rfl, outAt0 (by decide) (by decide) (by decide), [_, _, _, _], _, rfl, rfl, outAt0 (by decide) (by decide) (by decide), [_, _, _, _], _, rfl, rfl, outAt0 (by decide) (by decide) (by decide), [_, _, _, _], _, rfl, rfl, outAt0 (by decide) (by decide) (by decide),
    [_, _, _, _], _, rfl, rfl, outAt0 (by decide) (by decide) (by decide), [_, _, _, _], _, rfl, rfl, outAt0 (by decide) (by decide) (by decide), [_, _, _, _], _, rfl, rfl, outAt0 (by decide) h (by decide), rfl⟩
theorem kAt : ∀ ps : List Pc, LAt 3 (fun c p => c = kn p) (kcells ps) ps
  | [] => rfl
  | p :: ps => ⟨kn p, kcells ps, by simp [kcells], rfl, rfl, kAt ps⟩
def roomO (p : Pc) : OutM := ⟨0, 0, p.room, []⟩
theorem byteAt_min {m : Mod} (h : WF m) {a : Int} (h0 : 0 ≤ a) : byteAt m (min a 33554432) = byteAt m a := by
  by_cases ha : a ≤ 33554432
  · rw [Int.min_eq_left ha]
  · have h1 : m.inn (min a 33554432) = none := List.find?_eq_none.2 fun p hp => by
      have := (h.ok p hp).fin
      simp; omega
    have h2 : m.inn a = none := List.find?_eq_none.2 fun p hp => by
      have := (h.ok p hp).fin
      simp; omega
    unfold byteAt
    rw [h1, h2]
theorem byteAt_rng {m : Mod} (h : WF m) (a : Int) : 0 ≤ (byteAt m a).1 ∧ (byteAt m a).1 < 256 := by
  unfold byteAt
  cases hi : m.inn a with
  | none => simp
  | some p =>
    obtain ⟨hp, h1, h2⟩ := inn_some hi
    have ok := h.ok p hp
    have hl := ok.len
    simp only
    split
    · simp
    · rename_i hz
      have hd : (a - p.ad).toNat < p.b.length := by omega
      rw [List.getD_eq_getElem?_getD, List.getElem?_eq_getElem hd] at hz ⊢
      have := ok.byt p.b[(a - p.ad).toNat] (List.getElem_mem _)
      simp only [Option.getD_some] at hz ⊢
      omega
theorem modelAlways (a0 a1 : Int) (v : Value) (acts : List ActM) (x : OpM) (vx : Value) (L : Chunk) (hv : AS L v acts) (hvx : BS L vx x.bytes) (hxr : OpR x) (hn : acts.length * 120 ≤ 140737488351232) :
    Fn1 Tryz.prog 4 [.agg #[.int .i64 a0, .int .i64 a1], v, opV x vx] L (fun u L' => u = .bool true ∧ L = L') := by
  have sx := hvx.sng
  obtain ⟨aa, ca, rfl⟩ := hv.slice
  intro w0; refine Spec.enter3 Tryz.func4 rfl Tryz.ntmps4 (by decide) ?_
  repeat' (first|refine Gi0 fun _=>?_|refine Gi1 ?_|refine CW.drawsTreeA (id := 2) (.fork [1, 3, 4] 0 5 (.fork [] 2 5 (.leaf [5, 6, 7, 8, 9, 10, 11, 12, 13, 14, 15, 16, 17, 18, 19]) (.leaf [2, 6, 7, 8, 9, 10, 11, 12, 13, 14, 15, 16, 17, 18, 19])) (.leaf [0, 2, 6, 7, 8, 9, 10, 11, 12, 13, 14, 15, 16, 17, 18, 19])) mixed (by kernel_rfl) ?_|refine CW.drawsP (id := 7) [0,1,2,3,4,5,6,7,8,9,10,11] mixed (by kernel_rfl) ?_|refine CW.drawsP (id := 26) [0,1,2,3,4,5,6,7,8,9,10,11] mixed (by kernel_rfl) ?_|refine TRW.fork ?_|refine TRW.leaf ?_|refine TRW.both ?_ ?_|refine Gi2 (fun _=>?_) fun _=>?_|refine Gi3 ?_|refine Gi4 fun _=>?_|fail)
  rename_i b3 b5
  refine OW.cutK (fun ρ ds L' => ds = [] ∧ (∃ e bn bp, (¬ (0 ≤ a0 ∧ a0 < 4 ∧ 0 ≤ a1 ∧ a1 ≤ 1073741824) → e = 2) ∧ (0 ≤ a0 ∧ a0 < 4 ∧ 0 ≤ a1 ∧ a1 ≤ 1073741824 → e = 0 ∧ L' = (bn, .cells (mcells ⟨a0, a1, []⟩ bp).toArray 142 (0, 0)) :: (bp, .map #[] 0) :: (b5, .cells (opC x vx).toArray 50 (0, 0)) :: (b3, .cells #[.int .i64 a0, .int .i64 a1] 43 (0, 0)) :: L ∧ Ev ρ 7 (.pointer (some ⟨bn, 0, none⟩))) ∧ Ev ρ 8 (.int .i64 e)) ∧ MemC ((b5, .cells (opC x vx).toArray 50 (0, 0)) :: L) L' ∧ SubC L L' ∧
    (∃ p7, Ev ρ 7 (.pointer p7)) ∧ Ev ρ 1 (.slice aa acts.length ca) ∧ Ev ρ 5 (.pointer (some ⟨b5, 0, none⟩))) ?_ ?_
  rotate_left
  · intro N hN
    refine OW.call (modelNew a0 a1 _) ?_
    intro u L' hu
    by_cases hg : 0 ≤ a0 ∧ a0 < 4 ∧ 0 ≤ a1 ∧ a1 ≤ 1073741824
    · rw [if_pos hg] at hu
      obtain ⟨bn, bp, rfl, rfl⟩ := hu
      repeat' (first|refine Gi0 fun _=>?_|refine Gi1 ?_|refine CW.drawsTreeA (id := 2) (.fork [1, 3, 4] 0 5 (.fork [] 2 5 (.leaf [5, 6, 7, 8, 9, 10, 11, 12, 13, 14, 15, 16, 17, 18, 19]) (.leaf [2, 6, 7, 8, 9, 10, 11, 12, 13, 14, 15, 16, 17, 18, 19])) (.leaf [0, 2, 6, 7, 8, 9, 10, 11, 12, 13, 14, 15, 16, 17, 18, 19])) mixed (by kernel_rfl) ?_|refine CW.drawsP (id := 7) [0,1,2,3,4,5,6,7,8,9,10,11] mixed (by kernel_rfl) ?_|refine CW.drawsP (id := 26) [0,1,2,3,4,5,6,7,8,9,10,11] mixed (by kernel_rfl) ?_|refine TRW.fork ?_|refine TRW.leaf ?_|refine TRW.both ?_ ?_|refine Gi2 (fun _=>?_) fun _=>?_|refine Gi3 ?_|refine Gi4 fun _=>?_|fail)
      exact hN _ _ _ ⟨rfl, ⟨0, bn, bp, fun h => absurd hg h, fun _ => ⟨rfl, rfl, inferInstance⟩, inferInstance⟩, ⟨fun q hq => by
        simp only [List.mem_cons] at hq ⊢
        rcases hq with h | h
        · exact .inr (.inr (.inl h))
        · exact .inr (.inr (.inr (.inr h)))⟩, inferInstance, ⟨_, inferInstance⟩, inferInstance, inferInstance⟩
    · rw [if_neg hg] at hu
      obtain ⟨rfl, rfl⟩ := hu
      repeat' (first|refine Gi0 fun _=>?_|refine Gi1 ?_|refine CW.drawsTreeA (id := 2) (.fork [1, 3, 4] 0 5 (.fork [] 2 5 (.leaf [5, 6, 7, 8, 9, 10, 11, 12, 13, 14, 15, 16, 17, 18, 19]) (.leaf [2, 6, 7, 8, 9, 10, 11, 12, 13, 14, 15, 16, 17, 18, 19])) (.leaf [0, 2, 6, 7, 8, 9, 10, 11, 12, 13, 14, 15, 16, 17, 18, 19])) mixed (by kernel_rfl) ?_|refine CW.drawsP (id := 7) [0,1,2,3,4,5,6,7,8,9,10,11] mixed (by kernel_rfl) ?_|refine CW.drawsP (id := 26) [0,1,2,3,4,5,6,7,8,9,10,11] mixed (by kernel_rfl) ?_|refine TRW.fork ?_|refine TRW.leaf ?_|refine TRW.both ?_ ?_|refine Gi2 (fun _=>?_) fun _=>?_|refine Gi3 ?_|refine Gi4 fun _=>?_|fail)
      exact hN _ _ _ ⟨rfl, ⟨2, 0, 0, fun _ => rfl, fun h => absurd h hg, inferInstance⟩, ⟨fun q hq => by
        simp only [List.mem_cons] at hq ⊢
        rcases hq with h | h
        · exact .inl h
        · exact .inr (.inr h)⟩, inferInstance, ⟨_, inferInstance⟩, inferInstance, inferInstance⟩
  rintro ρ ds L1 ⟨rfl, ⟨e, bn, bp, he1, he2, e8⟩, hmem, hsub, ⟨p7, e7⟩, e1, e5⟩
  have hp7 : 0 ≤ a0 ∧ a0 < 4 ∧ 0 ≤ a1 ∧ a1 ≤ 1073741824 → p7 = some ⟨bn, 0, none⟩ := fun h => by
    have h1 := e7.out
    have h2 := (he2 h).2.2.out
    rw [h1] at h2
    simpa using h2
  have hv1 : AS L1 (.slice aa acts.length ca) acts := by
    have : MemC L L1 := ⟨fun q hq => hmem.out q (List.mem_cons_of_mem _ hq)⟩
    exact hv.to'
  have hvx1 : BS L1 vx x.bytes := by
    have : MemC L L1 := ⟨fun q hq => hmem.out q (List.mem_cons_of_mem _ hq)⟩
    exact hvx.to
  have h5 : InC L1 b5 (.cells (opC x vx).toArray 50 (0, 0)) := ⟨hmem.out _ (List.mem_cons_self ..)⟩
  refine CW.seq ?_
  refine CW.seq ?_
  refine CW.cutK (fun ρ ds L' => ds = [] ∧ Sfx L' L1 ∧ (∃ bb, Ev ρ 49 (.bool bb) ∧ (bb = false → Fit a0 a1 acts x ∧ e = 0)) ∧ Ev ρ 7 (.pointer p7) ∧ Ev ρ 8 (.int .i64 e) ∧ Ev ρ 1 (.slice aa acts.length ca) ∧ Ev ρ 5 (.pointer (some ⟨b5, 0, none⟩))) ?_ ?_
  rotate_left
  · intro N hN
    have by_contra_hg : e = 0 → 0 ≤ a0 ∧ a0 < 4 ∧ 0 ≤ a1 ∧ a1 ≤ 1073741824 := fun h => by
      rcases Classical.em (0 ≤ a0 ∧ a0 < 4 ∧ 0 ≤ a1 ∧ a1 ≤ 1073741824) with hg | hg
      · exact hg
      · have := he1 hg; omega
    obtain ⟨xs, hxs, hlat⟩ := hv1.rd
    have hlen := hv1.len
    repeat' (first|refine Gi0 fun _=>?_|refine Gi1 ?_|refine CW.drawsTreeA (id := 2) (.fork [1, 3, 4] 0 5 (.fork [] 2 5 (.leaf [5, 6, 7, 8, 9, 10, 11, 12, 13, 14, 15, 16, 17, 18, 19]) (.leaf [2, 6, 7, 8, 9, 10, 11, 12, 13, 14, 15, 16, 17, 18, 19])) (.leaf [0, 2, 6, 7, 8, 9, 10, 11, 12, 13, 14, 15, 16, 17, 18, 19])) mixed (by kernel_rfl) ?_|refine CW.drawsP (id := 7) [0,1,2,3,4,5,6,7,8,9,10,11] mixed (by kernel_rfl) ?_|refine CW.drawsP (id := 26) [0,1,2,3,4,5,6,7,8,9,10,11] mixed (by kernel_rfl) ?_|refine TRW.fork ?_|refine TRW.leaf ?_|refine TRW.both ?_ ?_|refine Gi2 (fun _=>?_) fun _=>?_|refine Gi3 ?_|refine Gi4 fun _=>?_|fail)
    all_goals refine RW.append0 hxs.to (by omega) (fun hm => pinOld ?_) (fun v' N' hm hrow => pinOld ?_)
    all_goals first
      | (have hm' := hm
         obtain rfl : acts = [] := List.eq_nil_of_length_eq_zero hm'
         repeat' (first|refine Gi0 fun _=>?_|refine Gi1 ?_|refine CW.drawsTreeA (id := 2) (.fork [1, 3, 4] 0 5 (.fork [] 2 5 (.leaf [5, 6, 7, 8, 9, 10, 11, 12, 13, 14, 15, 16, 17, 18, 19]) (.leaf [2, 6, 7, 8, 9, 10, 11, 12, 13, 14, 15, 16, 17, 18, 19])) (.leaf [0, 2, 6, 7, 8, 9, 10, 11, 12, 13, 14, 15, 16, 17, 18, 19])) mixed (by kernel_rfl) ?_|refine CW.drawsP (id := 7) [0,1,2,3,4,5,6,7,8,9,10,11] mixed (by kernel_rfl) ?_|refine CW.drawsP (id := 26) [0,1,2,3,4,5,6,7,8,9,10,11] mixed (by kernel_rfl) ?_|refine TRW.fork ?_|refine TRW.leaf ?_|refine TRW.both ?_ ?_|refine Gi2 (fun _=>?_) fun _=>?_|refine Gi3 ?_|refine Gi4 fun _=>?_|fail)
         refine RW.append0 (m := 1) (Rd.blk (l := actC x vx) rfl (Nat.le_refl _)) (by decide) (fun h => absurd h (by decide)) (fun v' N' _ hrow => pinOld ?_)
         have sv' := hrow.sng
         repeat' (first|refine Gi0 fun _=>?_|refine Gi1 ?_|refine CW.drawsTreeA (id := 2) (.fork [1, 3, 4] 0 5 (.fork [] 2 5 (.leaf [5, 6, 7, 8, 9, 10, 11, 12, 13, 14, 15, 16, 17, 18, 19]) (.leaf [2, 6, 7, 8, 9, 10, 11, 12, 13, 14, 15, 16, 17, 18, 19])) (.leaf [0, 2, 6, 7, 8, 9, 10, 11, 12, 13, 14, 15, 16, 17, 18, 19])) mixed (by kernel_rfl) ?_|refine CW.drawsP (id := 7) [0,1,2,3,4,5,6,7,8,9,10,11] mixed (by kernel_rfl) ?_|refine CW.drawsP (id := 26) [0,1,2,3,4,5,6,7,8,9,10,11] mixed (by kernel_rfl) ?_|refine TRW.fork ?_|refine TRW.leaf ?_|refine TRW.both ?_ ?_|refine Gi2 (fun _=>?_) fun _=>?_|refine Gi3 ?_|refine Gi4 fun _=>?_|fail)
         refine RW.call (few23 _ ([] ++ [⟨x, ⟨0, 0, 0, []⟩, false⟩]) 21 _ ⟨⟨_, hrow.rd.to, LAt.mono (fun c a h => ActAt.to c a h) (actOne hvx1 hxr)⟩, by simp⟩) ?_)
      | (have sv' := hrow.sng
         repeat' (first|refine Gi0 fun _=>?_|refine Gi1 ?_|refine CW.drawsTreeA (id := 2) (.fork [1, 3, 4] 0 5 (.fork [] 2 5 (.leaf [5, 6, 7, 8, 9, 10, 11, 12, 13, 14, 15, 16, 17, 18, 19]) (.leaf [2, 6, 7, 8, 9, 10, 11, 12, 13, 14, 15, 16, 17, 18, 19])) (.leaf [0, 2, 6, 7, 8, 9, 10, 11, 12, 13, 14, 15, 16, 17, 18, 19])) mixed (by kernel_rfl) ?_|refine CW.drawsP (id := 7) [0,1,2,3,4,5,6,7,8,9,10,11] mixed (by kernel_rfl) ?_|refine CW.drawsP (id := 26) [0,1,2,3,4,5,6,7,8,9,10,11] mixed (by kernel_rfl) ?_|refine TRW.fork ?_|refine TRW.leaf ?_|refine TRW.both ?_ ?_|refine Gi2 (fun _=>?_) fun _=>?_|refine Gi3 ?_|refine Gi4 fun _=>?_|fail)
         refine RW.append hrow inferInstance (Rd.blk (l := actC x vx) rfl (Nat.le_refl _)) (fun z hz => by
           simp only [actC, List.mem_cons, List.not_mem_nil, or_false] at hz
           rcases hz with rfl | rfl | rfl | rfl | rfl | rfl | rfl | rfl | rfl | rfl | rfl <;> infer_instance) (by omega) (fun v'' N'' hrow' => pinOld ?_)
         have sv'' := hrow'.sng
         repeat' (first|refine Gi0 fun _=>?_|refine Gi1 ?_|refine CW.drawsTreeA (id := 2) (.fork [1, 3, 4] 0 5 (.fork [] 2 5 (.leaf [5, 6, 7, 8, 9, 10, 11, 12, 13, 14, 15, 16, 17, 18, 19]) (.leaf [2, 6, 7, 8, 9, 10, 11, 12, 13, 14, 15, 16, 17, 18, 19])) (.leaf [0, 2, 6, 7, 8, 9, 10, 11, 12, 13, 14, 15, 16, 17, 18, 19])) mixed (by kernel_rfl) ?_|refine CW.drawsP (id := 7) [0,1,2,3,4,5,6,7,8,9,10,11] mixed (by kernel_rfl) ?_|refine CW.drawsP (id := 26) [0,1,2,3,4,5,6,7,8,9,10,11] mixed (by kernel_rfl) ?_|refine TRW.fork ?_|refine TRW.leaf ?_|refine TRW.both ?_ ?_|refine Gi2 (fun _=>?_) fun _=>?_|refine Gi3 ?_|refine Gi4 fun _=>?_|fail)
         refine RW.call (few23 _ (acts ++ [⟨x, ⟨0, 0, 0, []⟩, false⟩]) 21 _ ⟨⟨_, by rw [List.length_append]; exact hrow'.rd.to, LAt.append (LAt.mono (fun c a h => ActAt.to c a h) hlat) (LAt.mono (fun c a h => ActAt.to c a h) (actOne hvx1 hxr))⟩, by simp; omega⟩) ?_)
    all_goals (
      rintro _ _ ⟨⟨f, rfl, hf⟩, rfl⟩
      refine pinAll ?_
      cases f with
      | false =>
        repeat' (first|refine Gi0 fun _=>?_|refine Gi1 ?_|refine CW.drawsTreeA (id := 2) (.fork [1, 3, 4] 0 5 (.fork [] 2 5 (.leaf [5, 6, 7, 8, 9, 10, 11, 12, 13, 14, 15, 16, 17, 18, 19]) (.leaf [2, 6, 7, 8, 9, 10, 11, 12, 13, 14, 15, 16, 17, 18, 19])) (.leaf [0, 2, 6, 7, 8, 9, 10, 11, 12, 13, 14, 15, 16, 17, 18, 19])) mixed (by kernel_rfl) ?_|refine CW.drawsP (id := 7) [0,1,2,3,4,5,6,7,8,9,10,11] mixed (by kernel_rfl) ?_|refine CW.drawsP (id := 26) [0,1,2,3,4,5,6,7,8,9,10,11] mixed (by kernel_rfl) ?_|refine TRW.fork ?_|refine TRW.leaf ?_|refine TRW.both ?_ ?_|refine Gi2 (fun _=>?_) fun _=>?_|refine Gi3 ?_|refine Gi4 fun _=>?_|fail)
        exact hN _ _ _ ⟨rfl, inferInstance, ⟨true, inferInstance, fun h => (by cases h)⟩, inferInstance, inferInstance, inferInstance, inferInstance⟩
      | true =>
        have hmany : x.many ≤ 300 ∨ 16777216 < x.many := hf rfl ⟨x, ⟨0, 0, 0, []⟩, false⟩ (by simp)
        repeat' (first|refine Gi0 fun _=>?_|refine Gi1 ?_|refine CW.drawsTreeA (id := 2) (.fork [1, 3, 4] 0 5 (.fork [] 2 5 (.leaf [5, 6, 7, 8, 9, 10, 11, 12, 13, 14, 15, 16, 17, 18, 19]) (.leaf [2, 6, 7, 8, 9, 10, 11, 12, 13, 14, 15, 16, 17, 18, 19])) (.leaf [0, 2, 6, 7, 8, 9, 10, 11, 12, 13, 14, 15, 16, 17, 18, 19])) mixed (by kernel_rfl) ?_|refine CW.drawsP (id := 7) [0,1,2,3,4,5,6,7,8,9,10,11] mixed (by kernel_rfl) ?_|refine CW.drawsP (id := 26) [0,1,2,3,4,5,6,7,8,9,10,11] mixed (by kernel_rfl) ?_|refine TRW.fork ?_|refine TRW.leaf ?_|refine TRW.both ?_ ?_|refine Gi2 (fun _=>?_) fun _=>?_|refine Gi3 ?_|refine Gi4 fun _=>?_|fail)
        refine RW.call (num23 _ _) ?_
        rintro _ _ ⟨rfl, rfl⟩
        refine pinAll ?_
        by_cases he : e = 0
        · repeat' (first|refine Gi0 fun _=>?_|refine Gi1 ?_|refine CW.drawsTreeA (id := 2) (.fork [1, 3, 4] 0 5 (.fork [] 2 5 (.leaf [5, 6, 7, 8, 9, 10, 11, 12, 13, 14, 15, 16, 17, 18, 19]) (.leaf [2, 6, 7, 8, 9, 10, 11, 12, 13, 14, 15, 16, 17, 18, 19])) (.leaf [0, 2, 6, 7, 8, 9, 10, 11, 12, 13, 14, 15, 16, 17, 18, 19])) mixed (by kernel_rfl) ?_|refine CW.drawsP (id := 7) [0,1,2,3,4,5,6,7,8,9,10,11] mixed (by kernel_rfl) ?_|refine CW.drawsP (id := 26) [0,1,2,3,4,5,6,7,8,9,10,11] mixed (by kernel_rfl) ?_|refine TRW.fork ?_|refine TRW.leaf ?_|refine TRW.both ?_ ?_|refine Gi2 (fun _=>?_) fun _=>?_|refine Gi3 ?_|refine Gi4 fun _=>?_|fail)
          refine RW.call (kind23 _ _) ?_
          rintro _ _ ⟨rfl, rfl⟩
          refine pinAll ?_
          by_cases hk : 1 ≤ x.kind ∧ x.kind ≤ 7
          · rw [decide_eq_true hk]
            repeat' (first|refine Gi0 fun _=>?_|refine Gi1 ?_|refine CW.drawsTreeA (id := 2) (.fork [1, 3, 4] 0 5 (.fork [] 2 5 (.leaf [5, 6, 7, 8, 9, 10, 11, 12, 13, 14, 15, 16, 17, 18, 19]) (.leaf [2, 6, 7, 8, 9, 10, 11, 12, 13, 14, 15, 16, 17, 18, 19])) (.leaf [0, 2, 6, 7, 8, 9, 10, 11, 12, 13, 14, 15, 16, 17, 18, 19])) mixed (by kernel_rfl) ?_|refine CW.drawsP (id := 7) [0,1,2,3,4,5,6,7,8,9,10,11] mixed (by kernel_rfl) ?_|refine CW.drawsP (id := 26) [0,1,2,3,4,5,6,7,8,9,10,11] mixed (by kernel_rfl) ?_|refine TRW.fork ?_|refine TRW.leaf ?_|refine TRW.both ?_ ?_|refine Gi2 (fun _=>?_) fun _=>?_|refine Gi3 ?_|refine Gi4 fun _=>?_|fail)
            exact hN _ _ _ ⟨rfl, inferInstance, ⟨false, inferInstance, fun _ => ⟨⟨by_contra_hg he, hk, hmany⟩, he⟩⟩, inferInstance, inferInstance, inferInstance, inferInstance⟩
          · rw [decide_eq_false hk]
            repeat' (first|refine Gi0 fun _=>?_|refine Gi1 ?_|refine CW.drawsTreeA (id := 2) (.fork [1, 3, 4] 0 5 (.fork [] 2 5 (.leaf [5, 6, 7, 8, 9, 10, 11, 12, 13, 14, 15, 16, 17, 18, 19]) (.leaf [2, 6, 7, 8, 9, 10, 11, 12, 13, 14, 15, 16, 17, 18, 19])) (.leaf [0, 2, 6, 7, 8, 9, 10, 11, 12, 13, 14, 15, 16, 17, 18, 19])) mixed (by kernel_rfl) ?_|refine CW.drawsP (id := 7) [0,1,2,3,4,5,6,7,8,9,10,11] mixed (by kernel_rfl) ?_|refine CW.drawsP (id := 26) [0,1,2,3,4,5,6,7,8,9,10,11] mixed (by kernel_rfl) ?_|refine TRW.fork ?_|refine TRW.leaf ?_|refine TRW.both ?_ ?_|refine Gi2 (fun _=>?_) fun _=>?_|refine Gi3 ?_|refine Gi4 fun _=>?_|fail)
            exact hN _ _ _ ⟨rfl, inferInstance, ⟨true, inferInstance, fun h => (by cases h)⟩, inferInstance, inferInstance, inferInstance, inferInstance⟩
        · repeat' (first|refine Gi0 fun _=>?_|refine Gi1 ?_|refine CW.drawsTreeA (id := 2) (.fork [1, 3, 4] 0 5 (.fork [] 2 5 (.leaf [5, 6, 7, 8, 9, 10, 11, 12, 13, 14, 15, 16, 17, 18, 19]) (.leaf [2, 6, 7, 8, 9, 10, 11, 12, 13, 14, 15, 16, 17, 18, 19])) (.leaf [0, 2, 6, 7, 8, 9, 10, 11, 12, 13, 14, 15, 16, 17, 18, 19])) mixed (by kernel_rfl) ?_|refine CW.drawsP (id := 7) [0,1,2,3,4,5,6,7,8,9,10,11] mixed (by kernel_rfl) ?_|refine CW.drawsP (id := 26) [0,1,2,3,4,5,6,7,8,9,10,11] mixed (by kernel_rfl) ?_|refine TRW.fork ?_|refine TRW.leaf ?_|refine TRW.both ?_ ?_|refine Gi2 (fun _=>?_) fun _=>?_|refine Gi3 ?_|refine Gi4 fun _=>?_|fail)
          exact hN _ _ _ ⟨rfl, inferInstance, ⟨true, inferInstance, fun h => (by cases h)⟩, inferInstance, inferInstance, inferInstance, inferInstance⟩)
  rintro ρ ds L' ⟨rfl, hsfx, ⟨bb, e49, hbb⟩, e7, e8, e1, e5⟩
  obtain ⟨X, rfl⟩ := hsfx.out
  cases bb with
  | true =>
    repeat' (first|refine Gi0 fun _=>?_|refine Gi1 ?_|refine CW.drawsTreeA (id := 2) (.fork [1, 3, 4] 0 5 (.fork [] 2 5 (.leaf [5, 6, 7, 8, 9, 10, 11, 12, 13, 14, 15, 16, 17, 18, 19]) (.leaf [2, 6, 7, 8, 9, 10, 11, 12, 13, 14, 15, 16, 17, 18, 19])) (.leaf [0, 2, 6, 7, 8, 9, 10, 11, 12, 13, 14, 15, 16, 17, 18, 19])) mixed (by kernel_rfl) ?_|refine CW.drawsP (id := 7) [0,1,2,3,4,5,6,7,8,9,10,11] mixed (by kernel_rfl) ?_|refine CW.drawsP (id := 26) [0,1,2,3,4,5,6,7,8,9,10,11] mixed (by kernel_rfl) ?_|refine TRW.fork ?_|refine TRW.leaf ?_|refine TRW.both ?_ ?_|refine Gi2 (fun _=>?_) fun _=>?_|refine Gi3 ?_|refine Gi4 fun _=>?_|fail)
    refine OW.call (works23 _) ?_
    rintro _ _ ⟨rfl, rfl⟩
    repeat' (first|refine Gi0 fun _=>?_|refine Gi1 ?_|refine CW.drawsTreeA (id := 2) (.fork [1, 3, 4] 0 5 (.fork [] 2 5 (.leaf [5, 6, 7, 8, 9, 10, 11, 12, 13, 14, 15, 16, 17, 18, 19]) (.leaf [2, 6, 7, 8, 9, 10, 11, 12, 13, 14, 15, 16, 17, 18, 19])) (.leaf [0, 2, 6, 7, 8, 9, 10, 11, 12, 13, 14, 15, 16, 17, 18, 19])) mixed (by kernel_rfl) ?_|refine CW.drawsP (id := 7) [0,1,2,3,4,5,6,7,8,9,10,11] mixed (by kernel_rfl) ?_|refine CW.drawsP (id := 26) [0,1,2,3,4,5,6,7,8,9,10,11] mixed (by kernel_rfl) ?_|refine TRW.fork ?_|refine TRW.leaf ?_|refine TRW.both ?_ ?_|refine Gi2 (fun _=>?_) fun _=>?_|refine Gi3 ?_|refine Gi4 fun _=>?_|fail)
    exact bodyK.retD L (Res.one Tryz.results4) ⟨rfl, rfl⟩
  | false =>
    obtain ⟨hfit, he⟩ := hbb rfl
    obtain ⟨-, rfl, -⟩ := he2 hfit.good
    obtain rfl := hp7 hfit.good
    obtain ⟨g1, g2, g3, g4⟩ := hfit.good
    have hk := hfit.kind
    obtain ⟨ad1, ad2⟩ := hxr.ad
    obtain ⟨mn1, mn2⟩ := hxr.many
    have hm0 : WF ⟨a0, a1, []⟩ := start_wf ⟨g1, g2, g3, g4⟩
    have hr0 : MRest (X ++ ((bp, .map #[] 0) :: (b5, .cells (opC x vx).toArray 50 (0, 0)) :: (b3, .cells #[.int .i64 a0, .int .i64 a1] 43 (0, 0)) :: L)) bp ⟨a0, a1, []⟩ :=
      ⟨[], 0, [], inferInstance, KV.nil _, ⟨rfl, fun _ h => (by cases h)⟩, .refl _⟩
    generalize hY : (bp, Obj.map #[] 0) :: (b5, Obj.cells (opC x vx).toArray 50 (0, 0)) :: (b3, Obj.cells #[Value.int .i64 a0, Value.int .i64 a1] 43 (0, 0)) :: L = Y at *
    have hsubY : SubC L Y := by subst hY; infer_instance
    have h5Y : InC Y b5 (.cells (opC x vx).toArray 50 (0, 0)) := by subst hY; infer_instance
    have hmY : MemC L Y := ⟨hsubY.out.subset⟩
    clear hv1 hvx1 h5 hmem hsub he1 he2 hbb hsfx hp7
    repeat' (first|refine Gi0 fun _=>?_|refine Gi1 ?_|refine CW.drawsTreeA (id := 2) (.fork [1, 3, 4] 0 5 (.fork [] 2 5 (.leaf [5, 6, 7, 8, 9, 10, 11, 12, 13, 14, 15, 16, 17, 18, 19]) (.leaf [2, 6, 7, 8, 9, 10, 11, 12, 13, 14, 15, 16, 17, 18, 19])) (.leaf [0, 2, 6, 7, 8, 9, 10, 11, 12, 13, 14, 15, 16, 17, 18, 19])) mixed (by kernel_rfl) ?_|refine CW.drawsP (id := 7) [0,1,2,3,4,5,6,7,8,9,10,11] mixed (by kernel_rfl) ?_|refine CW.drawsP (id := 26) [0,1,2,3,4,5,6,7,8,9,10,11] mixed (by kernel_rfl) ?_|refine TRW.fork ?_|refine TRW.leaf ?_|refine TRW.both ?_ ?_|refine Gi2 (fun _=>?_) fun _=>?_|refine Gi3 ?_|refine Gi4 fun _=>?_|fail)
    refine CW.count acts.length (fun i ρ ds L' => ds = [] ∧ (∃ X m b, L' = X ++ ((bn, .cells (mcells m b).toArray 142 (0, 0)) :: Y) ∧ MRest (X ++ Y) b m ∧ WF m) ∧ Ev ρ 1 (.slice aa acts.length ca) ∧ Ev ρ 5 (.pointer (some ⟨b5, 0, none⟩)) ∧ Ev ρ 7 (.pointer (some ⟨bn, 0, none⟩)) ∧ Ev ρ 9 (.int .i64 (i : Int)))
      ⟨rfl, ⟨X, _, bp, rfl, hr0, hm0⟩, inferInstance, inferInstance, inferInstance, inferInstance⟩ ?_
    clear hr0 hm0 e1 e5 e7 e8 e49
    rintro i ρ ds L' hi ⟨rfl, ⟨X, m, b, rfl, hr, hwf⟩, e1, e5, e7, e9⟩
    by_cases hlt : i < acts.length
    · obtain ⟨bk, kk, capk, lk, ek, frk, hbe, hbin, hbc, hbn⟩ := hv.open (by omega)
      cases hbe
      obtain ⟨cc, hcut, vx2, vb2, rfl, hvx2, hvb2, hor, hou⟩ := hbn i hlt
      have hc1 := cutSub hcut 0 6 (by decide)
      have hc2 := cutSub hcut 6 4 (by decide)
      simp only [Nat.add_zero] at hc1
      have hc1' : CutL lk (kk + i * 11) 6 (opC acts[i].op vx2) := hc1
      have hc2' : CutL lk (kk + i * 11 + 6) 4 (outC acts[i].out vb2) := hc2
      have hbinY : InC Y bk (.cells lk.toArray ek frk) := ⟨hmY.out _ hbin.out⟩
      have hsb : SubC [(bk, .cells lk.toArray ek frk)] Y := ⟨List.singleton_sublist.2 hbinY.out⟩
      have s2 := hvx2.sng
      have s3 := hvb2.sng
      have hwf2 : WF (after m acts[i].op acts[i].out) := after_wf hwf hou.ad.1 (fun z hz => by have := hvx2.byt z hz; omega) (fun z hz => by have := hvb2.byt z hz; omega)
      repeat' (first|refine Gi0 fun _=>?_|refine Gi1 ?_|refine Gi2 (fun _=>?_) fun _=>?_|refine Gi3 ?_|refine Gi4 fun _=>?_|fail)
      refine CW.drawsR [(bk, .cells lk.toArray ek frk)] [0, 1, 2, 3, 4, 5, 6, 7, 8, 9, 10, 11] mixed (by kernel_rfl) ?_
      repeat' (first|refine Gi0 fun _=>?_|refine Gi1 ?_|refine Gi2 (fun _=>?_) fun _=>?_|refine Gi3 ?_|refine Gi4 fun _=>?_|fail)
      refine RW.call (doC bn b m hwf acts[i].op (opR hor) acts[i].out vx2 vb2 _ hvx2.to hr hvb2.to (outR hou)) ?_
      rintro _ _ ⟨N, b2, rfl, rfl, hrest⟩
      refine pinOld ?_
      repeat' (first|refine Gi0 fun _=>?_|refine Gi1 ?_|refine Gi2 (fun _=>?_) fun _=>?_|refine Gi3 ?_|refine Gi4 fun _=>?_|fail)
      refine ⟨hlt, rfl, ⟨N ++ X, _, b2, by simp, ?_, hwf2⟩, inferInstance, inferInstance, inferInstance, by rw [Int.natCast_add]; infer_instance⟩
      rw [List.append_assoc]
      exact hrest
    · obtain rfl : i = acts.length := by omega
      have hbnW : InC (X ++ ((bn, .cells (mcells m b).toArray 142 (0, 0)) :: Y)) bn (.cells (mcells m b).toArray 142 (0, 0)) := inferInstance
      have hDW : MemC (X ++ Y) (X ++ ((bn, .cells (mcells m b).toArray 142 (0, 0)) :: Y)) := ⟨fun q hq => by
        simp only [List.mem_append, List.mem_cons] at hq ⊢
        rcases hq with h | h
        · exact .inl h
        · exact .inr (.inr h)⟩
      have h5W : InC (X ++ ((bn, .cells (mcells m b).toArray 142 (0, 0)) :: Y)) b5 (.cells (opC x vx).toArray 50 (0, 0)) := inferInstance
      have hsubW : SubC L (X ++ ((bn, .cells (mcells m b).toArray 142 (0, 0)) :: Y)) := inferInstance
      have hvxW : BS (X ++ ((bn, .cells (mcells m b).toArray 142 (0, 0)) :: Y)) vx x.bytes := by
        have : MemC L (X ++ ((bn, .cells (mcells m b).toArray 142 (0, 0)) :: Y)) := ⟨hsubW.out.subset⟩
        exact hvx.to
      generalize X ++ ((bn, Obj.cells (mcells m b).toArray 142 (0, 0)) :: Y) = W at *
      have hlen := wf_len hwf
      have hnx : nextE x = 0 := by unfold nextE; rw [if_pos hk]
      have hstep : ∀ o, Md.next m x o = Md.step m x o := fun o => by unfold Md.next; rw [if_pos hk]
      repeat' (first|refine Gi0 fun _=>?_|refine Gi1 ?_|refine CW.drawsTreeA (id := 2) (.fork [1, 3, 4] 0 5 (.fork [] 2 5 (.leaf [5, 6, 7, 8, 9, 10, 11, 12, 13, 14, 15, 16, 17, 18, 19]) (.leaf [2, 6, 7, 8, 9, 10, 11, 12, 13, 14, 15, 16, 17, 18, 19])) (.leaf [0, 2, 6, 7, 8, 9, 10, 11, 12, 13, 14, 15, 16, 17, 18, 19])) mixed (by kernel_rfl) ?_|refine CW.drawsP (id := 7) [0,1,2,3,4,5,6,7,8,9,10,11] mixed (by kernel_rfl) ?_|refine CW.drawsP (id := 26) [0,1,2,3,4,5,6,7,8,9,10,11] mixed (by kernel_rfl) ?_|refine TRW.fork ?_|refine TRW.leaf ?_|refine TRW.both ?_ ?_|refine Gi2 (fun _=>?_) fun _=>?_|refine Gi3 ?_|refine Gi4 fun _=>?_|fail)
      rename_i b78
      refine OW.call (modelPieces bn b m hwf (X ++ Y) _ hr) ?_
      rintro up _ ⟨Np, rfl, hrp⟩
      obtain ⟨ap, cp, hpe⟩ := hrp.slice
      subst hpe
      repeat' (first|refine Gi0 fun _=>?_|refine Gi1 ?_|refine CW.drawsTreeA (id := 2) (.fork [1, 3, 4] 0 5 (.fork [] 2 5 (.leaf [5, 6, 7, 8, 9, 10, 11, 12, 13, 14, 15, 16, 17, 18, 19]) (.leaf [2, 6, 7, 8, 9, 10, 11, 12, 13, 14, 15, 16, 17, 18, 19])) (.leaf [0, 2, 6, 7, 8, 9, 10, 11, 12, 13, 14, 15, 16, 17, 18, 19])) mixed (by kernel_rfl) ?_|refine CW.drawsP (id := 7) [0,1,2,3,4,5,6,7,8,9,10,11] mixed (by kernel_rfl) ?_|refine CW.drawsP (id := 26) [0,1,2,3,4,5,6,7,8,9,10,11] mixed (by kernel_rfl) ?_|refine TRW.fork ?_|refine TRW.leaf ?_|refine TRW.both ?_ ?_|refine Gi2 (fun _=>?_) fun _=>?_|refine Gi3 ?_|refine Gi4 fun _=>?_|fail)
      have hrow0 : Row 56 4 [(b78, .cells (outs0C x.ad).toArray 56 (0, 0))] (.slice (some ⟨b78, 0, none⟩) 7 7) (outs0 x.ad).length (outs0C x.ad) := ⟨rfl, .inr ⟨b78, 7, [], rfl, rfl, Nat.le_refl _, rfl⟩⟩
      have halw := always hwf hk mn1 (fun _ => hfit.many)
      refine CW.cutB (fun ρ ds L' => ds = [] ∧ (∃ Z N v os xs, L' = Z ++ (N ++ W) ∧ Row 56 4 N v os.length xs ∧ LAt 4 (OutAt []) xs os ∧ os = outs0 x.ad ++ m.L.map roomO ∧ Ev ρ 10 v) ∧ Ev ρ 5 (.pointer (some ⟨b5, 0, none⟩)) ∧ Ev ρ 7 (.pointer (some ⟨bn, 0, none⟩))) ?_ ?_
      rotate_left
      · intro N0 hN0
        refine CW.count m.L.length (fun i ρ ds L' => ds = [] ∧ (∃ Z N v os xs, L' = Z ++ (Np ++ (N ++ W)) ∧ Row 56 4 N v os.length xs ∧ LAt 4 (OutAt []) xs os ∧ os = outs0 x.ad ++ (m.L.take i).map roomO ∧ Ev ρ 10 v) ∧ Ev ρ 5 (.pointer (some ⟨b5, 0, none⟩)) ∧ Ev ρ 7 (.pointer (some ⟨bn, 0, none⟩)) ∧ Ev ρ 11 (.slice ap m.L.length cp) ∧ Ev ρ 12 (.int .i64 (i : Int)))
          ⟨rfl, ⟨[], [(b78, .cells (outs0C x.ad).toArray 56 (0, 0))], _, outs0 x.ad, outs0C x.ad, rfl, hrow0, outs0At hxr.ad, by simp, inferInstance⟩, inferInstance, inferInstance, inferInstance, inferInstance⟩ ?_
        clear e1 e5 e7 e9
        rintro i ρ ds L' hi ⟨rfl, ⟨Z, N, v, os, xs, rfl, hrow, hlat, hos, e10⟩, e5, e7, e11, e12⟩
        have sv := hrow.sng
        by_cases hlt : i < m.L.length
        · have hosl : os.length = 7 + i := by rw [hos]; simp [outs0]; omega
          obtain ⟨bk, kk, capk, lk, ek, frk, hbe, hbin, hbc, hbn⟩ := hrp.rd.open (by omega)
          cases hbe
          have hcut := hbn i hlt
          rw [(kAt m.L).get i hlt] at hcut
          have hroom := (cutSub hcut 2 1 (by decide)).nth rfl
          have okp := hwf.ok m.L[i] (List.getElem_mem _)
          have ok1 := okp.room
          have ok2 := okp.fin
          have ok3 := okp.ad
          have htake : (m.L.take (i + 1)).map roomO = (m.L.take i).map roomO ++ [roomO m.L[i]] := by rw [List.take_add_one, List.getElem?_eq_getElem hlt, List.map_append]; rfl
          have hro : roomO m.L[i] = ⟨0, 0, m.L[i].room, []⟩ := rfl
          rw [hro] at htake
          generalize m.L[i].room = room at *
          repeat' (first|refine Gi0 fun _=>?_|refine Gi1 ?_|refine CW.drawsTreeA (id := 2) (.fork [1, 3, 4] 0 5 (.fork [] 2 5 (.leaf [5, 6, 7, 8, 9, 10, 11, 12, 13, 14, 15, 16, 17, 18, 19]) (.leaf [2, 6, 7, 8, 9, 10, 11, 12, 13, 14, 15, 16, 17, 18, 19])) (.leaf [0, 2, 6, 7, 8, 9, 10, 11, 12, 13, 14, 15, 16, 17, 18, 19])) mixed (by kernel_rfl) ?_|refine CW.drawsP (id := 7) [0,1,2,3,4,5,6,7,8,9,10,11] mixed (by kernel_rfl) ?_|refine CW.drawsP (id := 26) [0,1,2,3,4,5,6,7,8,9,10,11] mixed (by kernel_rfl) ?_|refine TRW.fork ?_|refine TRW.leaf ?_|refine TRW.both ?_ ?_|refine Gi2 (fun _=>?_) fun _=>?_|refine Gi3 ?_|refine Gi4 fun _=>?_|fail)
          refine OW.append hrow inferInstance (Rd.blk (l := outC ⟨0, 0, room, []⟩ (.slice none 0 0)) rfl (Nat.le_refl _)) (fun z hz => by
            simp only [outC, List.mem_cons, List.not_mem_nil, or_false] at hz
            rcases hz with rfl | rfl | rfl | rfl <;> infer_instance) (by omega) (fun v' N' hrow' => ?_)
          have sv' := hrow'.sng
          repeat' (first|refine Gi0 fun _=>?_|refine Gi1 ?_|refine CW.drawsTreeA (id := 2) (.fork [1, 3, 4] 0 5 (.fork [] 2 5 (.leaf [5, 6, 7, 8, 9, 10, 11, 12, 13, 14, 15, 16, 17, 18, 19]) (.leaf [2, 6, 7, 8, 9, 10, 11, 12, 13, 14, 15, 16, 17, 18, 19])) (.leaf [0, 2, 6, 7, 8, 9, 10, 11, 12, 13, 14, 15, 16, 17, 18, 19])) mixed (by kernel_rfl) ?_|refine CW.drawsP (id := 7) [0,1,2,3,4,5,6,7,8,9,10,11] mixed (by kernel_rfl) ?_|refine CW.drawsP (id := 26) [0,1,2,3,4,5,6,7,8,9,10,11] mixed (by kernel_rfl) ?_|refine TRW.fork ?_|refine TRW.leaf ?_|refine TRW.both ?_ ?_|refine Gi2 (fun _=>?_) fun _=>?_|refine Gi3 ?_|refine Gi4 fun _=>?_|fail)
          refine ⟨hlt, rfl, ⟨_ :: Z, N', v', os ++ [⟨0, 0, room, []⟩], _, rfl, by rw [List.length_append]; exact hrow', hlat.append (LAt.one rfl (outAt0 (by decide) (by decide) (by constructor <;> omega))), by rw [hos, htake, List.append_assoc], inferInstance⟩, inferInstance, inferInstance, inferInstance, by rw [Int.natCast_add]; infer_instance⟩
        · obtain rfl : i = m.L.length := by omega
          rw [List.take_length] at hos
          repeat' (first|refine Gi0 fun _=>?_|refine Gi1 ?_|refine CW.drawsTreeA (id := 2) (.fork [1, 3, 4] 0 5 (.fork [] 2 5 (.leaf [5, 6, 7, 8, 9, 10, 11, 12, 13, 14, 15, 16, 17, 18, 19]) (.leaf [2, 6, 7, 8, 9, 10, 11, 12, 13, 14, 15, 16, 17, 18, 19])) (.leaf [0, 2, 6, 7, 8, 9, 10, 11, 12, 13, 14, 15, 16, 17, 18, 19])) mixed (by kernel_rfl) ?_|refine CW.drawsP (id := 7) [0,1,2,3,4,5,6,7,8,9,10,11] mixed (by kernel_rfl) ?_|refine CW.drawsP (id := 26) [0,1,2,3,4,5,6,7,8,9,10,11] mixed (by kernel_rfl) ?_|refine TRW.fork ?_|refine TRW.leaf ?_|refine TRW.both ?_ ?_|refine Gi2 (fun _=>?_) fun _=>?_|refine Gi3 ?_|refine Gi4 fun _=>?_|fail)
          exact hN0 _ _ _ ⟨rfl, ⟨Z ++ Np, N, v, os, xs, by rw [List.append_assoc], hrow, hlat, hos, inferInstance⟩, inferInstance, inferInstance⟩
      clear e1 e5 e7 e9
      rintro ρ ds L' ⟨rfl, ⟨Z, N, v, os, xs, rfl, hrow, hlat, hos, e10⟩, e5, e7⟩
      have sv := hrow.sng
      have hosl : os.length = 7 + m.L.length := by rw [hos]; simp [outs0]; omega
      refine CW.seq ?_
      refine CW.cut (fun ρ ds L' => ds = [] ∧ (∃ Z N v os xs, L' = Z ++ (N ++ W) ∧ Row 56 4 N v os.length xs ∧ LAt 4 (OutAt Z) xs os ∧ (∃ o ∈ os, (Md.next m x o).2 = true) ∧ os.length ≤ 2147483648 ∧ Ev ρ 10 v) ∧ Ev ρ 5 (.pointer (some ⟨b5, 0, none⟩)) ∧ Ev ρ 7 (.pointer (some ⟨bn, 0, none⟩))) ?_ ?_
      rotate_left
      · have plain : ¬ (x.kind = 6 ∧ x.many ≤ 300) → ∃ o ∈ os, (Md.next m x o).2 = true := fun hno => by
          rcases halw with ⟨o, ho, h⟩ | ⟨p, hp, h⟩ | ⟨h1, h2, _⟩
          · exact ⟨o, by rw [hos]; exact List.mem_append_left _ ho, by rw [hstep]; exact h⟩
          · exact ⟨roomO p, by rw [hos]; exact List.mem_append_right _ (List.mem_map.2 ⟨p, hp, rfl⟩), by rw [hstep]; exact h⟩
          · exact absurd ⟨h1, h2⟩ hno
        have hlatZ : LAt 4 (OutAt Z) xs os := LAt.mono (fun c a h => OutAt.to c a h) hlat
        by_cases hld : x.kind = 6 ∧ x.many ≤ 300
        · obtain ⟨hl1, hl2⟩ := hld
          obtain ⟨mn, hmn⟩ : ∃ mn : Nat, (mn : Int) = x.many := ⟨x.many.toNat, Int.toNat_of_nonneg mn1⟩
          repeat' (first|refine Gi0 fun _=>?_|refine Gi1 ?_|refine CW.drawsTreeA (id := 2) (.fork [1, 3, 4] 0 5 (.fork [] 2 5 (.leaf [5, 6, 7, 8, 9, 10, 11, 12, 13, 14, 15, 16, 17, 18, 19]) (.leaf [2, 6, 7, 8, 9, 10, 11, 12, 13, 14, 15, 16, 17, 18, 19])) (.leaf [0, 2, 6, 7, 8, 9, 10, 11, 12, 13, 14, 15, 16, 17, 18, 19])) mixed (by kernel_rfl) ?_|refine CW.drawsP (id := 7) [0,1,2,3,4,5,6,7,8,9,10,11] mixed (by kernel_rfl) ?_|refine CW.drawsP (id := 26) [0,1,2,3,4,5,6,7,8,9,10,11] mixed (by kernel_rfl) ?_|refine TRW.fork ?_|refine TRW.leaf ?_|refine TRW.both ?_ ?_|refine Gi2 (fun _=>?_) fun _=>?_|refine Gi3 ?_|refine Gi4 fun _=>?_|fail)
          refine CW.count mn (fun i ρ ds L' => ds = [] ∧ (∃ Z2 Nb v2, L' = Z2 ++ (Nb ++ (Z ++ (N ++ W))) ∧ Row 5 1 Nb v2 i (bv ((List.range i).map fun k : Nat => (byteAt m (x.ad + (k : Int))).1)) ∧ Ev ρ 13 v2) ∧ Ev ρ 5 (.pointer (some ⟨b5, 0, none⟩)) ∧ Ev ρ 7 (.pointer (some ⟨bn, 0, none⟩)) ∧ Ev ρ 10 v ∧ Ev ρ 14 (.int .i64 (i : Int)))
            ⟨rfl, ⟨[], [], _, rfl, Row.nil _ _, inferInstance⟩, inferInstance, inferInstance, inferInstance, inferInstance⟩ ?_
          clear e5 e7 e10
          rintro i ρ ds L' hi ⟨rfl, ⟨Z2, Nb, v2, rfl, hrowb, e13⟩, e5, e7, e10, e14⟩
          have sv2 := hrowb.sng
          by_cases hlt : i < mn
          · repeat' (first|refine Gi0 fun _=>?_|refine Gi1 ?_|refine CW.drawsTreeA (id := 2) (.fork [1, 3, 4] 0 5 (.fork [] 2 5 (.leaf [5, 6, 7, 8, 9, 10, 11, 12, 13, 14, 15, 16, 17, 18, 19]) (.leaf [2, 6, 7, 8, 9, 10, 11, 12, 13, 14, 15, 16, 17, 18, 19])) (.leaf [0, 2, 6, 7, 8, 9, 10, 11, 12, 13, 14, 15, 16, 17, 18, 19])) mixed (by kernel_rfl) ?_|refine CW.drawsP (id := 7) [0,1,2,3,4,5,6,7,8,9,10,11] mixed (by kernel_rfl) ?_|refine CW.drawsP (id := 26) [0,1,2,3,4,5,6,7,8,9,10,11] mixed (by kernel_rfl) ?_|refine TRW.fork ?_|refine TRW.leaf ?_|refine TRW.both ?_ ?_|refine Gi2 (fun _=>?_) fun _=>?_|refine Gi3 ?_|refine Gi4 fun _=>?_|fail)
            refine OW.call (modelByte bn b m hwf (min (x.ad + (i : Int)) 33554432) ⟨by omega, by omega⟩ (X ++ Y) _ hr) ?_
            rintro _ _ ⟨rfl, rfl⟩
            rw [byteAt_min hwf (by omega)]
            have hbr := byteAt_rng hwf (x.ad + (i : Int))
            have hsucc : (List.range (i + 1)).map (fun k : Nat => (byteAt m (x.ad + (k : Int))).1) = (List.range i).map (fun k : Nat => (byteAt m (x.ad + (k : Int))).1) ++ [(byteAt m (x.ad + (i : Int))).1] := by rw [List.range_succ, List.map_append]; rfl
            generalize byteAt m (x.ad + (i : Int)) = by1 at *
            obtain ⟨y, q1, q2⟩ := by1
            simp only at hbr hsucc ⊢
            repeat' (first|refine Gi0 fun _=>?_|refine Gi1 ?_|refine CW.drawsTreeA (id := 2) (.fork [1, 3, 4] 0 5 (.fork [] 2 5 (.leaf [5, 6, 7, 8, 9, 10, 11, 12, 13, 14, 15, 16, 17, 18, 19]) (.leaf [2, 6, 7, 8, 9, 10, 11, 12, 13, 14, 15, 16, 17, 18, 19])) (.leaf [0, 2, 6, 7, 8, 9, 10, 11, 12, 13, 14, 15, 16, 17, 18, 19])) mixed (by kernel_rfl) ?_|refine CW.drawsP (id := 7) [0,1,2,3,4,5,6,7,8,9,10,11] mixed (by kernel_rfl) ?_|refine CW.drawsP (id := 26) [0,1,2,3,4,5,6,7,8,9,10,11] mixed (by kernel_rfl) ?_|refine TRW.fork ?_|refine TRW.leaf ?_|refine TRW.both ?_ ?_|refine Gi2 (fun _=>?_) fun _=>?_|refine Gi3 ?_|refine Gi4 fun _=>?_|fail)
            refine OW.append hrowb inferInstance (Rd.blk (l := [Value.int .u8 y]) rfl (Nat.le_refl _)) (fun z hz => by rw [List.mem_singleton.1 hz]; infer_instance) (by omega) (fun v' N' hrow' => ?_)
            have sv' := hrow'.sng
            have hrow2 : Row 5 1 N' v' (i + 1) (bv ((List.range (i + 1)).map fun k : Nat => (byteAt m (x.ad + (k : Int))).1)) := by rw [hsucc, bv_app]; exact hrow'
            repeat' (first|refine Gi0 fun _=>?_|refine Gi1 ?_|refine CW.drawsTreeA (id := 2) (.fork [1, 3, 4] 0 5 (.fork [] 2 5 (.leaf [5, 6, 7, 8, 9, 10, 11, 12, 13, 14, 15, 16, 17, 18, 19]) (.leaf [2, 6, 7, 8, 9, 10, 11, 12, 13, 14, 15, 16, 17, 18, 19])) (.leaf [0, 2, 6, 7, 8, 9, 10, 11, 12, 13, 14, 15, 16, 17, 18, 19])) mixed (by kernel_rfl) ?_|refine CW.drawsP (id := 7) [0,1,2,3,4,5,6,7,8,9,10,11] mixed (by kernel_rfl) ?_|refine CW.drawsP (id := 26) [0,1,2,3,4,5,6,7,8,9,10,11] mixed (by kernel_rfl) ?_|refine TRW.fork ?_|refine TRW.leaf ?_|refine TRW.both ?_ ?_|refine Gi2 (fun _=>?_) fun _=>?_|refine Gi3 ?_|refine Gi4 fun _=>?_|fail)
            exact ⟨hlt, rfl, ⟨_ :: Z2, N', v', rfl, hrow2, inferInstance⟩, inferInstance, inferInstance, inferInstance, by rw [Int.natCast_add]; infer_instance⟩
          · obtain rfl : i = mn := by omega
            repeat' (first|refine Gi0 fun _=>?_|refine Gi1 ?_|refine CW.drawsTreeA (id := 2) (.fork [1, 3, 4] 0 5 (.fork [] 2 5 (.leaf [5, 6, 7, 8, 9, 10, 11, 12, 13, 14, 15, 16, 17, 18, 19]) (.leaf [2, 6, 7, 8, 9, 10, 11, 12, 13, 14, 15, 16, 17, 18, 19])) (.leaf [0, 2, 6, 7, 8, 9, 10, 11, 12, 13, 14, 15, 16, 17, 18, 19])) mixed (by kernel_rfl) ?_|refine CW.drawsP (id := 7) [0,1,2,3,4,5,6,7,8,9,10,11] mixed (by kernel_rfl) ?_|refine CW.drawsP (id := 26) [0,1,2,3,4,5,6,7,8,9,10,11] mixed (by kernel_rfl) ?_|refine TRW.fork ?_|refine TRW.leaf ?_|refine TRW.both ?_ ?_|refine Gi2 (fun _=>?_) fun _=>?_|refine Gi3 ?_|refine Gi4 fun _=>?_|fail)
            refine OW.append hrow inferInstance (Rd.blk (l := outC ⟨0, 0, 0, []⟩ v2) rfl (Nat.le_refl _)) (fun z hz => by
              simp only [outC, List.mem_cons, List.not_mem_nil, or_false] at hz
              rcases hz with rfl | rfl | rfl | rfl <;> infer_instance) (by omega) (fun v' N' hrow' => ?_)
            have sv' := hrow'.sng
            have htl : (List.range i).map (fun k : Nat => (byteAt m (x.ad + (k : Int))).1) = toldB m x.ad x.many := by unfold toldB; rw [← hmn, Int.toNat_natCast]
            rw [htl] at hrowb
            have hbs : BS Nb v2 (toldB m x.ad x.many) := Go.Pw.Sc.Row.bs hrowb (fun z hz => by
              unfold toldB at hz
              obtain ⟨k, _, rfl⟩ := List.mem_map.1 hz
              exact byteAt_rng hwf _) (by simp [toldB]; omega)
            have hex : ∃ o ∈ os ++ [⟨0, 0, 0, toldB m x.ad x.many⟩], (Md.next m x o).2 = true := by
              rcases halw with ⟨o, ho, h⟩ | ⟨p, hp, h⟩ | ⟨_, _, h⟩
              · exact ⟨o, by rw [hos]; exact List.mem_append_left _ (List.mem_append_left _ ho), by rw [hstep]; exact h⟩
              · exact ⟨roomO p, by rw [hos]; exact List.mem_append_left _ (List.mem_append_right _ (List.mem_map.2 ⟨p, hp, rfl⟩)), by rw [hstep]; exact h⟩
              · exact ⟨_, List.mem_append_right _ (List.mem_singleton.2 rfl), by rw [hstep]; exact h⟩
            repeat' (first|refine Gi0 fun _=>?_|refine Gi1 ?_|refine CW.drawsTreeA (id := 2) (.fork [1, 3, 4] 0 5 (.fork [] 2 5 (.leaf [5, 6, 7, 8, 9, 10, 11, 12, 13, 14, 15, 16, 17, 18, 19]) (.leaf [2, 6, 7, 8, 9, 10, 11, 12, 13, 14, 15, 16, 17, 18, 19])) (.leaf [0, 2, 6, 7, 8, 9, 10, 11, 12, 13, 14, 15, 16, 17, 18, 19])) mixed (by kernel_rfl) ?_|refine CW.drawsP (id := 7) [0,1,2,3,4,5,6,7,8,9,10,11] mixed (by kernel_rfl) ?_|refine CW.drawsP (id := 26) [0,1,2,3,4,5,6,7,8,9,10,11] mixed (by kernel_rfl) ?_|refine TRW.fork ?_|refine TRW.leaf ?_|refine TRW.both ?_ ?_|refine Gi2 (fun _=>?_) fun _=>?_|refine Gi3 ?_|refine Gi4 fun _=>?_|fail)
            rename_i bt
            refine ⟨rfl, ⟨(bt, .cells (outC ⟨0, 0, 0, []⟩ v2).toArray 56 (0, 0)) :: (Z2 ++ (Nb ++ Z)), N', v', os ++ [⟨0, 0, 0, toldB m x.ad x.many⟩], _, by simp, by rw [List.length_append]; exact hrow', ?_, hex, by rw [List.length_append]; simp; omega, inferInstance⟩, inferInstance, inferInstance⟩
            exact (LAt.mono (fun c a h => OutAt.to c a h) hlat).append (LAt.one rfl ⟨v2, rfl, hbs.to, ⟨by show inR .i64 0; decide, by show inR .u32 0; decide, by show inR .i64 0; decide⟩⟩)
        · have hp := plain hld
          by_cases hl1 : x.kind = 6
          · have hl2 : ¬ x.many ≤ 300 := fun h => hld ⟨hl1, h⟩
            repeat' (first|refine Gi0 fun _=>?_|refine Gi1 ?_|refine CW.drawsTreeA (id := 2) (.fork [1, 3, 4] 0 5 (.fork [] 2 5 (.leaf [5, 6, 7, 8, 9, 10, 11, 12, 13, 14, 15, 16, 17, 18, 19]) (.leaf [2, 6, 7, 8, 9, 10, 11, 12, 13, 14, 15, 16, 17, 18, 19])) (.leaf [0, 2, 6, 7, 8, 9, 10, 11, 12, 13, 14, 15, 16, 17, 18, 19])) mixed (by kernel_rfl) ?_|refine CW.drawsP (id := 7) [0,1,2,3,4,5,6,7,8,9,10,11] mixed (by kernel_rfl) ?_|refine CW.drawsP (id := 26) [0,1,2,3,4,5,6,7,8,9,10,11] mixed (by kernel_rfl) ?_|refine TRW.fork ?_|refine TRW.leaf ?_|refine TRW.both ?_ ?_|refine Gi2 (fun _=>?_) fun _=>?_|refine Gi3 ?_|refine Gi4 fun _=>?_|fail)
            exact ⟨rfl, ⟨Z, N, v, os, xs, rfl, hrow, hlatZ, hp, by omega, inferInstance⟩, inferInstance, inferInstance⟩
          · repeat' (first|refine Gi0 fun _=>?_|refine Gi1 ?_|refine CW.drawsTreeA (id := 2) (.fork [1, 3, 4] 0 5 (.fork [] 2 5 (.leaf [5, 6, 7, 8, 9, 10, 11, 12, 13, 14, 15, 16, 17, 18, 19]) (.leaf [2, 6, 7, 8, 9, 10, 11, 12, 13, 14, 15, 16, 17, 18, 19])) (.leaf [0, 2, 6, 7, 8, 9, 10, 11, 12, 13, 14, 15, 16, 17, 18, 19])) mixed (by kernel_rfl) ?_|refine CW.drawsP (id := 7) [0,1,2,3,4,5,6,7,8,9,10,11] mixed (by kernel_rfl) ?_|refine CW.drawsP (id := 26) [0,1,2,3,4,5,6,7,8,9,10,11] mixed (by kernel_rfl) ?_|refine TRW.fork ?_|refine TRW.leaf ?_|refine TRW.both ?_ ?_|refine Gi2 (fun _=>?_) fun _=>?_|refine Gi3 ?_|refine Gi4 fun _=>?_|fail)
            exact ⟨rfl, ⟨Z, N, v, os, xs, rfl, hrow, hlatZ, hp, by omega, inferInstance⟩, inferInstance, inferInstance⟩
      clear e5 e7 e10
      rintro ρ ds L' ⟨rfl, ⟨Z, N, v, os, xs, rfl, hrow, hlat, hex, hosl, e10⟩, e5, e7⟩
      have sv := hrow.sng
      have hls : LS 4 OutAt (Z ++ (N ++ W)) v os := ⟨⟨xs, hrow.rd.to, LAt.mono (fun c a h => OutAt.to c a h) hlat⟩, by omega⟩
      obtain ⟨ao, co, hoe⟩ := hls.slice
      subst hoe
      repeat' (first|refine Gi0 fun _=>?_|refine Gi1 ?_|refine CW.drawsTreeA (id := 2) (.fork [1, 3, 4] 0 5 (.fork [] 2 5 (.leaf [5, 6, 7, 8, 9, 10, 11, 12, 13, 14, 15, 16, 17, 18, 19]) (.leaf [2, 6, 7, 8, 9, 10, 11, 12, 13, 14, 15, 16, 17, 18, 19])) (.leaf [0, 2, 6, 7, 8, 9, 10, 11, 12, 13, 14, 15, 16, 17, 18, 19])) mixed (by kernel_rfl) ?_|refine CW.drawsP (id := 7) [0,1,2,3,4,5,6,7,8,9,10,11] mixed (by kernel_rfl) ?_|refine CW.drawsP (id := 26) [0,1,2,3,4,5,6,7,8,9,10,11] mixed (by kernel_rfl) ?_|refine TRW.fork ?_|refine TRW.leaf ?_|refine TRW.both ?_ ?_|refine Gi2 (fun _=>?_) fun _=>?_|refine Gi3 ?_|refine Gi4 fun _=>?_|fail)
      refine CW.count os.length (fun i ρ ds L' => ds = [] ∧ (∃ (Z2 : Chunk) (cnt : Nat), L' = Z2 ++ (Z ++ (N ++ W)) ∧ cnt ≤ i ∧ ((∃ o ∈ os.take i, (Md.next m x o).2 = true) → 0 < cnt) ∧ Ev ρ 18 (.int .i64 (cnt : Int))) ∧ Ev ρ 5 (.pointer (some ⟨b5, 0, none⟩)) ∧ Ev ρ 7 (.pointer (some ⟨bn, 0, none⟩)) ∧ Ev ρ 10 (.slice ao os.length co) ∧ Ev ρ 19 (.int .i64 (i : Int)))
        ⟨rfl, ⟨[], 0, rfl, Nat.le_refl _, by simp, inferInstance⟩, inferInstance, inferInstance, inferInstance, inferInstance⟩ ?_
      clear e5 e7 e10
      rintro i ρ ds L' hi ⟨rfl, ⟨Z2, cnt, rfl, hcnt, hex2, e18⟩, e5, e7, e10, e19⟩
      by_cases hlt : i < os.length
      · obtain ⟨bk, kk, capk, lk, ek, frk, hbe, hbin, hbc, hbn⟩ := hls.open (by omega)
        cases hbe
        obtain ⟨cc, hcut, vb2, rfl, hvb2, hou⟩ := hbn i hlt
        have s3 := hvb2.sng
        have htk : os.take (i + 1) = os.take i ++ [os[i]] := by rw [List.take_add_one, List.getElem?_eq_getElem hlt]; rfl
        generalize os[i] = o at *
        repeat' (first|refine Gi0 fun _=>?_|refine Gi1 ?_|refine CW.drawsTreeA (id := 2) (.fork [1, 3, 4] 0 5 (.fork [] 2 5 (.leaf [5, 6, 7, 8, 9, 10, 11, 12, 13, 14, 15, 16, 17, 18, 19]) (.leaf [2, 6, 7, 8, 9, 10, 11, 12, 13, 14, 15, 16, 17, 18, 19])) (.leaf [0, 2, 6, 7, 8, 9, 10, 11, 12, 13, 14, 15, 16, 17, 18, 19])) mixed (by kernel_rfl) ?_|refine CW.drawsP (id := 7) [0,1,2,3,4,5,6,7,8,9,10,11] mixed (by kernel_rfl) ?_|refine CW.drawsP (id := 26) [0,1,2,3,4,5,6,7,8,9,10,11] mixed (by kernel_rfl) ?_|refine TRW.fork ?_|refine TRW.leaf ?_|refine TRW.both ?_ ?_|refine Gi2 (fun _=>?_) fun _=>?_|refine Gi3 ?_|refine Gi4 fun _=>?_|fail)
        refine RW.call (modelMay bn b m hwf x hxr o vx vb2 (X ++ Y) _ hvxW.to hr hvb2.to (outR hou)) ?_
        rintro _ _ ⟨N2, rfl, rfl⟩
        refine pinAll ?_
        rw [hnx]
        cases hq : (Md.next m x o).2 with
        | true =>
          repeat' (first|refine Gi0 fun _=>?_|refine Gi1 ?_|refine CW.drawsTreeA (id := 2) (.fork [1, 3, 4] 0 5 (.fork [] 2 5 (.leaf [5, 6, 7, 8, 9, 10, 11, 12, 13, 14, 15, 16, 17, 18, 19]) (.leaf [2, 6, 7, 8, 9, 10, 11, 12, 13, 14, 15, 16, 17, 18, 19])) (.leaf [0, 2, 6, 7, 8, 9, 10, 11, 12, 13, 14, 15, 16, 17, 18, 19])) mixed (by kernel_rfl) ?_|refine CW.drawsP (id := 7) [0,1,2,3,4,5,6,7,8,9,10,11] mixed (by kernel_rfl) ?_|refine CW.drawsP (id := 26) [0,1,2,3,4,5,6,7,8,9,10,11] mixed (by kernel_rfl) ?_|refine TRW.fork ?_|refine TRW.leaf ?_|refine TRW.both ?_ ?_|refine Gi2 (fun _=>?_) fun _=>?_|refine Gi3 ?_|refine Gi4 fun _=>?_|fail)
          refine OW.call (num23 _ _) ?_
          rintro _ _ ⟨rfl, rfl⟩
          repeat' (first|refine Gi0 fun _=>?_|refine Gi1 ?_|refine CW.drawsTreeA (id := 2) (.fork [1, 3, 4] 0 5 (.fork [] 2 5 (.leaf [5, 6, 7, 8, 9, 10, 11, 12, 13, 14, 15, 16, 17, 18, 19]) (.leaf [2, 6, 7, 8, 9, 10, 11, 12, 13, 14, 15, 16, 17, 18, 19])) (.leaf [0, 2, 6, 7, 8, 9, 10, 11, 12, 13, 14, 15, 16, 17, 18, 19])) mixed (by kernel_rfl) ?_|refine CW.drawsP (id := 7) [0,1,2,3,4,5,6,7,8,9,10,11] mixed (by kernel_rfl) ?_|refine CW.drawsP (id := 26) [0,1,2,3,4,5,6,7,8,9,10,11] mixed (by kernel_rfl) ?_|refine TRW.fork ?_|refine TRW.leaf ?_|refine TRW.both ?_ ?_|refine Gi2 (fun _=>?_) fun _=>?_|refine Gi3 ?_|refine Gi4 fun _=>?_|fail)
          exact ⟨hlt, rfl, ⟨N2 ++ Z2, cnt + 1, by rw [List.append_assoc], by omega, fun _ => by omega, by rw [Int.natCast_add]; infer_instance⟩, inferInstance, inferInstance, inferInstance, by rw [Int.natCast_add]; infer_instance⟩
        | false =>
          repeat' (first|refine Gi0 fun _=>?_|refine Gi1 ?_|refine CW.drawsTreeA (id := 2) (.fork [1, 3, 4] 0 5 (.fork [] 2 5 (.leaf [5, 6, 7, 8, 9, 10, 11, 12, 13, 14, 15, 16, 17, 18, 19]) (.leaf [2, 6, 7, 8, 9, 10, 11, 12, 13, 14, 15, 16, 17, 18, 19])) (.leaf [0, 2, 6, 7, 8, 9, 10, 11, 12, 13, 14, 15, 16, 17, 18, 19])) mixed (by kernel_rfl) ?_|refine CW.drawsP (id := 7) [0,1,2,3,4,5,6,7,8,9,10,11] mixed (by kernel_rfl) ?_|refine CW.drawsP (id := 26) [0,1,2,3,4,5,6,7,8,9,10,11] mixed (by kernel_rfl) ?_|refine TRW.fork ?_|refine TRW.leaf ?_|refine TRW.both ?_ ?_|refine Gi2 (fun _=>?_) fun _=>?_|refine Gi3 ?_|refine Gi4 fun _=>?_|fail)
          exact ⟨hlt, rfl, ⟨N2 ++ Z2, cnt, by rw [List.append_assoc], by omega, (fun ⟨o', ho', h⟩ => by
            rw [htk] at ho'
            rcases List.mem_append.1 ho' with ho' | ho'
            · exact hex2 ⟨o', ho', h⟩
            · rw [List.mem_singleton.1 ho', hq] at h; cases h), inferInstance⟩, inferInstance, inferInstance, inferInstance, by rw [Int.natCast_add]; infer_instance⟩
      · obtain rfl : i = os.length := by omega
        rw [List.take_length] at hex2
        have hc0 := hex2 hex
        repeat' (first|refine Gi0 fun _=>?_|refine Gi1 ?_|refine CW.drawsTreeA (id := 2) (.fork [1, 3, 4] 0 5 (.fork [] 2 5 (.leaf [5, 6, 7, 8, 9, 10, 11, 12, 13, 14, 15, 16, 17, 18, 19]) (.leaf [2, 6, 7, 8, 9, 10, 11, 12, 13, 14, 15, 16, 17, 18, 19])) (.leaf [0, 2, 6, 7, 8, 9, 10, 11, 12, 13, 14, 15, 16, 17, 18, 19])) mixed (by kernel_rfl) ?_|refine CW.drawsP (id := 7) [0,1,2,3,4,5,6,7,8,9,10,11] mixed (by kernel_rfl) ?_|refine CW.drawsP (id := 26) [0,1,2,3,4,5,6,7,8,9,10,11] mixed (by kernel_rfl) ?_|refine TRW.fork ?_|refine TRW.leaf ?_|refine TRW.both ?_ ?_|refine Gi2 (fun _=>?_) fun _=>?_|refine Gi3 ?_|refine Gi4 fun _=>?_|fail)
        refine OW.call (works23 _) ?_
        rintro _ _ ⟨rfl, rfl⟩
        repeat' (first|refine Gi0 fun _=>?_|refine Gi1 ?_|refine CW.drawsTreeA (id := 2) (.fork [1, 3, 4] 0 5 (.fork [] 2 5 (.leaf [5, 6, 7, 8, 9, 10, 11, 12, 13, 14, 15, 16, 17, 18, 19]) (.leaf [2, 6, 7, 8, 9, 10, 11, 12, 13, 14, 15, 16, 17, 18, 19])) (.leaf [0, 2, 6, 7, 8, 9, 10, 11, 12, 13, 14, 15, 16, 17, 18, 19])) mixed (by kernel_rfl) ?_|refine CW.drawsP (id := 7) [0,1,2,3,4,5,6,7,8,9,10,11] mixed (by kernel_rfl) ?_|refine CW.drawsP (id := 26) [0,1,2,3,4,5,6,7,8,9,10,11] mixed (by kernel_rfl) ?_|refine TRW.fork ?_|refine TRW.leaf ?_|refine TRW.both ?_ ?_|refine Gi2 (fun _=>?_) fun _=>?_|refine Gi3 ?_|refine Gi4 fun _=>?_|fail)
        exact bodyK.retD L (Res.one Tryz.results4) ⟨rfl, rfl⟩
end Go.Proofs.YtmnhooepaemlcaaGreat
