/-
  For every life and all bytes the law pinfoldlaw28.ScriptBack returns true, and its input reads afterwards as before. This text holds lemmas for it (part 2 of 6).
  Conditions: none.
-/
import Derived.Test.YtlfdaepkoagnbaaGreatBk1
import Derived.ChangeKeysEq
import Derived.ProofKit
import Derived.OpenShut
import Derived.Deep.Slices
import Derived.Stop.Joined
import Derived.Test.YtlfdaepkoagnbaaGreatRows
set_option linter.all false
namespace Go.Pw

section scope
variable {P : Program} {b : Frame} {a : Act} {k : List Item} {cs : List Frame} {w : World}
theorem stepR_scope {c : Code} : step P (lone (b.atR a (.code (.scope c) :: k)) cs w) = .next (lone (b.atR a (.code c :: .inScope c :: k)) cs w) :=
  step_lone_go (by simp [stepG, stepG.exec, Frame.atR])
theorem stepR_inScope {c : Code} : step P (lone (b.atR a (.inScope c :: k)) cs w) = .next (lone (b.atR a k) cs w) :=
  step_lone_go (by simp [stepG, stepG.exec, Frame.atR])

/-- A scope's jumps, at most so many. -/
def scopeK (P : Program) (w0 : World) (rd : Option Nat) (n : Nat) (c : Code) (K : Post) : Nat → Post
  | 0, .goto l, ρ, ds, L => findLabel c l = none ∧ K (.goto l) ρ ds L
  | m + 1, .goto l, ρ, ds, L => (findLabel c l = none ∧ K (.goto l) ρ ds L) ∨ ∃ rest, findLabel c l = some rest ∧ CW P w0 rd n rest (scopeK P w0 rd n c K m) ρ ds L
  | _, e, ρ, ds, L => K e ρ ds L

variable {w0 : World} {rd : Option Nat} {n : Nat} {K : Post} {ρ : Env} {ds : List Deferred} {L : Chunk}

theorem CW.scope {c : Code} (m : Nat) (h : CW P w0 rd n c (scopeK P w0 rd n c K m) ρ ds L) : CW P w0 rd n (.scope c) K ρ ds L := by
  intro a w hr hs b k cs hro hb hroom
  have key : ∀ (m : Nat) (rest : Code) (a : Act) (w : World) (ρ : Env) (ds : List Deferred) (L : Chunk), Rep n a ρ ds → St w0 w L → CW P w0 rd n rest (scopeK P w0 rd n c K m) ρ ds L →
      ∃ e a' w', Kx w0 n K e a' w' ∧ ArrivesIn (Machine.fenced P (fence rd)) P (lone (b.atR a (.code rest :: .inScope c :: k)) cs w) b k cs e a' w' := by
    intro m
    induction m with
    | zero =>
      intro rest a w ρ ds L hr hs h
      obtain ⟨e, a₁, w₁, ⟨ρ₁, ds₁, L₁, hr₁, hs₁, hq⟩, harr⟩ := h a w hr hs b (.inScope c :: k) cs hro hb hroom
      cases e with
      | normal => exact ⟨.normal, a₁, w₁, ⟨ρ₁, ds₁, L₁, hr₁, hs₁, hq⟩, StepsIn.trans harr (.one (fenced_calm hb hroom rfl) stepR_inScope)⟩
      | exit id => exact ⟨_, a₁, w₁, ⟨ρ₁, ds₁, L₁, hr₁, hs₁, hq⟩, ⟨fun k' hk => harr.1 k' (by simp [exitTo, hk]), fun hr hk => harr.2 hr (by simp [exitTo, hk])⟩⟩
      | goto l =>
        obtain ⟨hf, hq⟩ := hq
        exact ⟨_, a₁, w₁, ⟨ρ₁, ds₁, L₁, hr₁, hs₁, hq⟩, ⟨fun k' hk => harr.1 k' (by simp [gotoIn, hf, hk]), fun hr hk => harr.2 hr (by simp [gotoIn, hf, hk])⟩⟩
      | ret => exact ⟨_, a₁, w₁, ⟨ρ₁, ds₁, L₁, hr₁, hs₁, hq⟩, harr⟩
      | panic ch => exact ⟨_, a₁, w₁, ⟨ρ₁, ds₁, L₁, hr₁, hs₁, hq⟩, harr⟩
      | outgrown => exact ⟨_, a₁, w₁, ⟨ρ₁, ds₁, L₁, hr₁, hs₁, hq⟩, harr⟩
    | succ m ih =>
      intro rest a w ρ ds L hr hs h
      obtain ⟨e, a₁, w₁, ⟨ρ₁, ds₁, L₁, hr₁, hs₁, hq⟩, harr⟩ := h a w hr hs b (.inScope c :: k) cs hro hb hroom
      cases e with
      | normal => exact ⟨.normal, a₁, w₁, ⟨ρ₁, ds₁, L₁, hr₁, hs₁, hq⟩, StepsIn.trans harr (.one (fenced_calm hb hroom rfl) stepR_inScope)⟩
      | exit id => exact ⟨_, a₁, w₁, ⟨ρ₁, ds₁, L₁, hr₁, hs₁, hq⟩, ⟨fun k' hk => harr.1 k' (by simp [exitTo, hk]), fun hr hk => harr.2 hr (by simp [exitTo, hk])⟩⟩
      | goto l =>
        rcases hq with ⟨hf, hq⟩ | ⟨rest', hf, hq⟩
        · exact ⟨_, a₁, w₁, ⟨ρ₁, ds₁, L₁, hr₁, hs₁, hq⟩, ⟨fun k' hk => harr.1 k' (by simp [gotoIn, hf, hk]), fun hr hk => harr.2 hr (by simp [gotoIn, hf, hk])⟩⟩
        · obtain ⟨e₂, a₂, w₂, hq₂, harr₂⟩ := ih rest' a₁ w₁ ρ₁ ds₁ L₁ hr₁ hs₁ hq
          exact ⟨e₂, a₂, w₂, hq₂, .of_steps (harr.1 _ (by simp [gotoIn, hf])) harr₂⟩
      | ret => exact ⟨_, a₁, w₁, ⟨ρ₁, ds₁, L₁, hr₁, hs₁, hq⟩, harr⟩
      | panic ch => exact ⟨_, a₁, w₁, ⟨ρ₁, ds₁, L₁, hr₁, hs₁, hq⟩, harr⟩
      | outgrown => exact ⟨_, a₁, w₁, ⟨ρ₁, ds₁, L₁, hr₁, hs₁, hq⟩, harr⟩
  obtain ⟨e, a', w', hq, harr⟩ := key m c a w ρ ds L hr hs h
  exact ⟨e, a', w', hq, .of_steps (.one (fenced_calm hb hroom rfl) stepR_scope) harr⟩

variable {c : Code} {m : Nat}
theorem scopeK_n (h : K .normal ρ ds L) : scopeK P w0 rd n c K m .normal ρ ds L := by cases m <;> exact h
theorem scopeK_ret (h : K .ret ρ ds L) : scopeK P w0 rd n c K m .ret ρ ds L := by cases m <;> exact h
theorem scopeK_exit {id : Nat} (h : K (.exit id) ρ ds L) : scopeK P w0 rd n c K m (.exit id) ρ ds L := by cases m <;> exact h
theorem scopeK_goto {l : Nat} {rest : Code} (hf : findLabel c l = some rest) (h : CW P w0 rd n rest (scopeK P w0 rd n c K m) ρ ds L) : scopeK P w0 rd n c K (m + 1) (.goto l) ρ ds L := .inr ⟨rest, hf, h⟩
theorem scopeK_steady (h : Steady K) : Steady (scopeK P w0 rd n c K m) := by cases m <;> exact h
instance stdScope [h : StdC K] : StdC (scopeK P w0 rd n c K m) := ⟨scopeK_steady h.out⟩
end scope

section ops
variable {P : Program} {ρ : Env} {L : Chunk} {ty : TypeId}
/-- A shift by a number that is not below 0. -/
def shlV (k : IntKind) (a b : Int) : Int := k.wrap (a * 2 ^ min b.toNat k.bits)
def shrV (k : IntKind) (a b : Int) : Int := a.fdiv (2 ^ min b.toNat k.bits)
class NN (b : Int) : Prop where out : 0 ≤ b
@[reducible] def nnB : Int → Bool | .ofNat _ => true | .negSucc _ => false
theorem nnB_eq : ∀ b, nnB b = true → 0 ≤ b | .ofNat n, _ => Int.natCast_nonneg n
instance {b : Int} [h : IsT (nnB b)] : NN b := ⟨nnB_eq _ h.out⟩
instance (priority := high) {n : Nat} : NN (n : Int) := ⟨Int.natCast_nonneg n⟩
@[reducible] def natOf : Int → Nat | .ofNat n => n | .negSucc _ => 0
theorem natOf_eq : ∀ b, b.toNat = natOf b | .ofNat _ => rfl | .negSucc _ => rfl
instance toNNum {b : Int} [h : IsT (nnB b)] : ToN b (natOf b) := ⟨natOf_eq b⟩
instance op1Shl {t yt : TypeId} {x y : Operand} {k k' : IntKind} {a b : Int} [hx : EvO ρ x (.int k a)] [hy : EvO ρ y (.int k' b)] [h : NN b] : Op1 P ρ L (.binOp .shl t x y yt) ty (.int k (shlV k a b)) := ⟨yl_shl hx hy h.out⟩
instance op1Shr {t yt : TypeId} {x y : Operand} {k k' : IntKind} {a b : Int} [hx : EvO ρ x (.int k a)] [hy : EvO ρ y (.int k' b)] [h : NN b] : Op1 P ρ L (.binOp .shr t x y yt) ty (.int k (shrV k a b)) := ⟨yl_shr hx hy h.out⟩

instance opaBuildSlice0 {t e : TypeId} {n : Nat} [ht : Und P t (.slice e)] [hn : Siz P e n] : OpA P ρ L (.buildSlice t 0 #[]) ty (fun b => .slice (some ⟨b, 0, none⟩) 0 0) (.cells #[] e) :=
  ⟨fun c h => (by cases h), fun w o ho _ _ => ⟨{ w with heap := w.heap.push (.cells #[] e) }, by
    unfold execOp
    simp [ho, Instr.buildSlice, run_underlying ht.out, hn.out, Instr.fill, run_newRow]; rw [Array.eq_empty_of_size_eq_zero (xs := Array.map (fun _ => (default : Value)) (Array.range 0)) (by simp)], rfl, rfl, rfl⟩⟩
end ops

/-- Its first elements. -/
theorem Row.sl0 {e : TypeId} {s n k : Nat} {N : Chunk} {v : Value} {xs : List Value} (h : Row e s N v n xs) (hk : k ≤ n) : Row e s N (slV v 0 k s) k (xs.take (k * s)) := by
  have hks : k * s ≤ n * s := Nat.mul_le_mul_right _ hk
  refine ⟨by rw [List.length_take, h.1]; omega, ?_⟩
  rcases h.2 with ⟨rfl, rfl, rfl⟩ | ⟨b, cap, rest, rfl, rfl, h3, h4⟩
  · obtain rfl : k = 0 := by omega
    exact .inl ⟨rfl, rfl, rfl⟩
  · refine .inr ⟨b, cap, xs.drop (k * s) ++ rest, ?_, ?_, by omega, ?_⟩
    · have hadd : (⟨b, 0, none⟩ : Addr).add (0 * s) = ⟨b, 0, none⟩ := by simp [Addr.add]
      simp only [slV, Option.map_some, hadd, ite_self, Nat.sub_zero]
    · rw [← List.append_assoc, List.take_append_drop]
    · rw [← List.append_assoc, List.take_append_drop]; exact h4

section appendMake
variable {P : Program} {ρ : Env} {L : Chunk} {ty : TypeId}
theorem zeroCells_one (z : Value) (n : Nat) : Builtin.zeroCells #[z] n = (List.replicate n z).toArray := by
  apply Array.ext
  · simp [Builtin.zeroCells]
  · intro i h1 h2
    simp [Builtin.zeroCells, Nat.mod_one]
/-- append of zeros, to nothing. -/
theorem ef_appendMake {t t2 e : TypeId} {bytes m : Nat} {x y : Operand} {k : IntKind} {j : Int} {z : Value} {d : TypeDesc} {c : Nat}
    (ht : Und P t (.slice e)) (ht2 : Und P t2 (.int .i64)) (hz : Siz P e 1) (hzv : Zer P e z) (hsn : Sng z) (hby : Byt P e bytes) (hbp : 0 < bytes)
    (hx : EvO ρ x (.slice none 0 0)) (hy : EvO ρ y (.int k j)) (hj : ToN j m) (h : 0 < j ∧ j * bytes ≤ 140737488355328 ∧ j ≤ 140737488355328) :
    Ef P ρ L (.call { callee := .builtin .append, args := #[x, y], argTypes := #[t, t2] }) ty (fun v' L' => ∃ N', L' = N' ++ L ∧ Row e 1 N' v' m (List.replicate m z)) noPanic := by
  refine ⟨fun c h => (by cases h), fun w0 w rd a next Q o ho hty ha hst hn _ => ?_⟩
  obtain ⟨i, hi, hib⟩ := hby.out
  have hti : ∀ w, (typeInfo e).run P w = .ok i w := fun w => by simp [typeInfo, hi]
  have hm : j = (m : Int) := by have := hj.out; omega
  subst hm
  have hwr : IntKind.i64.wrap (m : Int) = m := wrap_in (k := .i64) ⟨by omega, by omega⟩
  have hmb : m * bytes ≤ 140737488355328 := by have := h.2.1; rw [← Int.natCast_mul] at this; omega
  have hn2 : ¬ ((9223372036854775807 : Int) < (m : Int)) := by omega
  have hn3 : ¬ (281474976710656 < Builtin.nextslicecap m 0 * i.bytes) := by
    have := growslice_fits (show 0 < m by omega) (by rw [hib]; exact hmb : m * i.bytes ≤ 140737488355328); omega
  have hn4 : ¬ (281474976710656 < (m : Int) * (i.bytes : Int)) := by rw [hib]; have := h.2.1; omega
  have hK : m ≤ grownCap w m 0 e := grownCap_ge w _ _ _
  have hm0 : ¬ m = 0 := by omega
  have hrun : (Builtin.append_ #[t, t2] o.type #[.slice none 0 0, .int k m]).run P w = .ok (.slice (some ⟨w.heap.size, 0, none⟩) m (grownCap w m 0 e))
      (w.drew.alloc (.cells (#[] ++ (Builtin.zeroCells z.cells m ++ Builtin.zeroCells z.cells (grownCap w m 0 e - m))) e)) := by
    unfold Builtin.append_
    simp [run_underlying ht.out, run_underlying ht2.out, hz.out, hti, hwr, asInt, asIntOf, show ¬ ((m : Int) < 0) by omega, hm0, hn2, hn3, hn4, choose, Sem.run, Question.forced, askRoom, newRow, newObj, Builtin.firstCells]
    simp [hzv.out, grownCap, hsn.out.1, Sem.run]
  have hunfold : (execOp (ev ρ) o).run P w = .ok (.value (.slice (some ⟨w.heap.size, 0, none⟩) m (grownCap w m 0 e))) (w.drew.alloc (.cells (#[] ++ (Builtin.zeroCells z.cells m ++ Builtin.zeroCells z.cells (grownCap w m 0 e - m))) e)) := by
    unfold execOp
    simp only [ho, resolve, invoke, builtin, Sem.run_bind, Sem.run_pure, Result.andThen_ok, List.map_toArray, List.map_cons, List.map_nil, hx.out, hy.out, hrun]
  rw [hunfold]
  refine hn _ _ ([(w.heap.size, _)] ++ L) ?_ ⟨[(w.heap.size, _)], rfl, by simp, .inr ⟨w.heap.size, grownCap w m 0 e, (Builtin.zeroCells z.cells (grownCap w m 0 e - m)).toList, rfl, rfl, hK, ?_⟩⟩
  · have hst' : St w0 w.drew L := ⟨hst.os, hst.out, hst.nodup, hst.pn⟩
    have h9 := hst'.alloc (.cells (#[] ++ (Builtin.zeroCells z.cells m ++ Builtin.zeroCells z.cells (grownCap w m 0 e - m))) e)
    have e1 : (#[] ++ (Builtin.zeroCells z.cells m ++ Builtin.zeroCells z.cells (grownCap w m 0 e - m))) = (List.replicate m z ++ (Builtin.zeroCells z.cells (grownCap w m 0 e - m)).toList).toArray := by
      rw [hsn.out.1, zeroCells_one]; simp
    rw [← e1]
    exact h9
  · rw [List.length_append, List.length_replicate, hsn.out.1, zeroCells_one]; simp; omega
variable {w0 : World} {rd : Option Nat} {n : Nat} {K : Post} {ds : List Deferred} {R : Chunk} {ops : Array Oper} {l : List Oper} {d : Nat} {pos : String} {after : Array Edge}
theorem OW.appendMake {t t2 e : TypeId} {bytes m : Nat} {x y : Operand} {k : IntKind} {j : Int} {z : Value}
    [ht : Und P t (.slice e)] [ht2 : Und P t2 (.int .i64)] [hz : Siz P e 1] [hzv : Zer P e z] [hsn : Sng z] [hby : Byt P e bytes] [hbp : NeNat bytes 0]
    [hx : EvO ρ x (.slice none 0 0)] [hy : EvO ρ y (.int k j)] [hj : ToN j m] (h : 0 < j ∧ j * bytes ≤ 140737488355328 ∧ j ≤ 140737488355328)
    (next : ∀ v' N', Row e 1 N' v' m (List.replicate m z) → OW P w0 rd n ops K l (upd ρ d v') ds (N' ++ L)) :
    OW P w0 rd n ops K (⟨some d, .call { callee := .builtin .append, args := #[x, y], argTypes := #[t, t2] }, ty, pos, after, none⟩ :: l) ρ ds L :=
  OW.eff (ef_appendMake (d := .bool) (c := 0) ht ht2 hz hzv hsn hby (Nat.pos_of_ne_zero hbp.ne) hx hy hj h) (fun v' L' ⟨N', h1, h2⟩ => by subst h1; exact next v' N' h2) (fun _ _ h => h.elim)
end appendMake

section leave
variable {P : Program} {w0 : World} {rd : Option Nat} {n : Nat} {K : Post} {ρ : Env} {ds : List Deferred} {L : Chunk} {ops : Array Oper} {l : List Oper} {d : Nat} {pos : String} {after : Array Edge} {ty : TypeId} {dst : Option Tmp}
/-- A call is deferred. -/
theorem OW.defer {x : Operand} {args : List Operand} {at_ : Array TypeId} {f : FuncId} {cap : Array Value} {vs : List Value} [hx : EvO ρ x (.func (.func f) #[] cap)] [hv : EvL ρ args vs]
    (next : OW P w0 none n ops K l ρ ({ target := .fn (.func f) cap, args := vs.toArray } :: ds) L) :
    OW P w0 none n ops K (⟨none, .defer { callee := .value x, args := args.toArray, argTypes := at_ }, ty, pos, after, none⟩ :: l) ρ ds L := by
  intro hok a w hr hs
  simp only [List.all_cons, Bool.and_eq_true] at hok
  refine wpListIn_plain rfl fun K' hK => ?_
  refine ⟨fun f hf => trivial, ?_⟩
  have hargs : args.toArray.map (ev ρ) = vs.toArray := by rw [← hv.out]; simp
  have e : (Oper.semAt (fence none).round a.eval ⟨none, .defer { callee := .value x, args := args.toArray, argTypes := at_ }, ty, pos, after, none⟩).run P w = .ok (.defer { target := .fn (.func f) cap, args := vs.toArray }) w := by
    rw [fence_round, Oper.semAt_none, hr.eval]
    unfold execOp
    simp [resolve, hx.out, Deferred.ofValue, hargs]
  rw [e, Oper.uponIn_defer]
  exact hK _ _ (next hok.2 _ _ ⟨hr.size, hr.get, by simp [Act.put, hr.ds]⟩ hs)

/-- How a function that was called as a deferred one goes. -/
def bodyD (P : Program) (fn : Func) (R : Ending → Chunk → Prop) : Post
  | .normal, ρ, ds, L | .ret, ρ, ds, L => ds = [] ∧ ∃ v L', L'.Sublist L ∧ Res P fn ρ L v ∧ R (.returned v) L'
  | .panic ch, _, ds, L => ds = [] ∧ ∃ L', L'.Sublist L ∧ R (.panicked ch) L'
  | _, _, _, _ => False
theorem bodyD.steady {fn : Func} {R : Ending → Chunk → Prop} : Steady (bodyD P fn R) := fun _ _ _ _ _ h => h
instance stdBodyD {fn : Func} {R : Ending → Chunk → Prop} : StdC (bodyD P fn R) := ⟨bodyD.steady⟩

/-- It begins with recover. -/
theorem DSpec.recover {f : FuncId} {fn : Func} {rest : Code} {id : Nat} {d d2 : Nat} {ty1 ty2 : TypeId} {pos1 pos2 : String} {af1 af2 : Array Edge} {args : List Value} {ρ0 : Env} {u u' : FrameMode} {rv : Value} {R : Ending → FrameMode → Chunk → Prop}
    (hrec : (u = .returning ∧ u' = .returning ∧ rv = .nilIface) ∨ (∃ v, u = .panicking [{ v, recovered := false }] ∧ u' = .panicking [{ v, recovered := true }] ∧ rv = v))
    (hf : P.funcs[f]? = some fn) (hb : fn.body = some (.seq (.region id #[⟨some d, .call { callee := .builtin .recover, args := #[], argTypes := #[] }, ty1, pos1, af1, none⟩, ⟨some d2, .assign (.tmp d), ty2, pos2, af2, none⟩] false) rest))
    (hn : fn.ntmps = n) (hle : args.length ≤ n) (hd : d < n ∧ d2 < n) (hρ : ∀ t, args.getD t undef = ρ0 t)
    (h : CW P w0 none n rest (bodyD P fn fun e L' => R e u' L') (upd (upd ρ0 d rv) d2 rv) [] L) : DSpec P w0 f args u L R := by
  intro w hs
  refine callsDIn_of_wpSIn (F := Fence.wide) hf hb trivial (fun c₀ cs hu => ?_)
  subst hn
  have hrep : Rep fn.ntmps { tmps := args.toArray ++ Array.replicate (fn.ntmps - args.toArray.size) undef, defers := [] } ρ0 [] := by
    refine ⟨by simp; omega, fun t => ?_, rfl⟩
    rw [← hρ t]
    simp only [Array.getD_eq_getD_getElem?, List.getD_eq_getElem?_getD, Array.getElem?_append, List.size_toArray, List.getElem?_toArray]
    split
    · rfl
    · rename_i hge
      rw [List.getElem?_eq_none (by omega)]
      simp [Array.getElem?_replicate]
      split <;> rfl
  generalize ({ tmps := args.toArray ++ Array.replicate (fn.ntmps - args.toArray.size) undef, defers := [] } : Act) = a0 at hrep
  have h1 : Rep fn.ntmps (a0.put (some d) rv) (upd ρ0 d rv) [] := hrep.put (d := some d) (by simp [hd.1]) rv
  have h2 : Rep fn.ntmps ((a0.put (some d) rv).put (some d2) rv) (upd (upd ρ0 d rv) d2 rv) [] := h1.put (d := some d2) (by simp [hd.2]) rv
  have hev : (a0.put (some d) rv).eval (.tmp d) = rv := by rw [h1.eval]; exact upd_same ρ0 d rv
  have fin : ∀ cs', cs' = { c₀ with mode := u' } :: cs → rest.wpSIn Fence.wide 0 P (bodyPostS P fn c₀ cs (fun e u' w' => ∃ L', St w0 w' L' ∧ R e u' L')) ((a0.put (some d) rv).put (some d2) rv) cs' w := by
    rintro cs' rfl
    refine wpSIn_of_wpIn rfl ?_
    refine wpIn_mono (h _ w h2 hs) ?_
    rintro e a w' ⟨ρ, ds, L', hr, hst, hk⟩
    cases e with
    | normal =>
      obtain ⟨rfl, v, L'', hsub, hres, hφ⟩ := hk
      exact ⟨hr.ds, u', rfl, v, hres _ _ hr.get hst.pn, L'', hst.drop hsub, hφ⟩
    | ret =>
      obtain ⟨rfl, v, L'', hsub, hres, hφ⟩ := hk
      exact ⟨hr.ds, u', rfl, v, hres _ _ hr.get hst.pn, L'', hst.drop hsub, hφ⟩
    | panic ch =>
      obtain ⟨rfl, L'', hsub, hφ⟩ := hk
      exact ⟨hr.ds, u', rfl, L'', hst.drop hsub, hφ⟩
    | exit id => exact hk
    | goto l => exact hk
    | outgrown => exact hk.elim
  refine wpSIn_seq (wpSIn_region ?_)
  have hex : ∀ ρ, (execOp ρ ⟨some d, .call { callee := .builtin .recover, args := #[], argTypes := #[] }, ty1, pos1, af1, none⟩).run P w = .ok .recover w := fun ρ => by
    unfold execOp; simp [resolve, invoke, builtin]
  have hex2 : (execOp (a0.put (some d) rv).eval ⟨some d2, .assign (.tmp d), ty2, pos2, af2, none⟩).run P w = .ok (.value rv) w := by
    unfold execOp; simp [hev]
  rcases hrec with ⟨rfl, rfl, rfl⟩ | ⟨v, rfl, rfl, rfl⟩
  · have hR : recoverD (c₀ :: cs) = none := by simp [recoverD, hu]
    show wpOpsSIn Fence.wide 0 P _ _ [0, 1] a0 (c₀ :: cs) w
    simp only [wpOpsSIn, List.getElem?_toArray, List.getElem?_cons_zero, List.getElem?_cons_succ, Region.wanted, if_true, hex, hR, hex2]
    refine ⟨fun _ _ => trivial, fun _ _ => trivial, ?_⟩
    exact fin _ (by rw [← hu])
  · have hR : recoverD (c₀ :: cs) = some (rv, { c₀ with mode := .panicking [{ v := rv, recovered := true }] } :: cs) := by simp [recoverD, hu]
    show wpOpsSIn Fence.wide 0 P _ _ [0, 1] a0 (c₀ :: cs) w
    simp only [wpOpsSIn, List.getElem?_toArray, List.getElem?_cons_zero, List.getElem?_cons_succ, Region.wanted, if_true, hex, hR, hex2]
    refine ⟨fun _ _ => trivial, fun _ _ => trivial, ?_⟩
    exact fin _ rfl

variable {fn : Func} {R : Ending → Chunk → Prop} {v : Value}
theorem bodyD.nrm (L' : Chunk) [hs : SubC L' L] (hr : Res P fn ρ L v) (h : R (.returned v) L') : bodyD P fn R .normal ρ [] L := ⟨rfl, v, L', hs.out, hr, h⟩
theorem bodyD.ret (L' : Chunk) [hs : SubC L' L] (hr : Res P fn ρ L v) (h : R (.returned v) L') : bodyD P fn R .ret ρ [] L := ⟨rfl, v, L', hs.out, hr, h⟩
end leave
section count
variable {P : Program} {w0 : World} {rd : Option Nat} {n : Nat} {K : Post} {ρ : Env} {ds : List Deferred} {L : Chunk}
/-- A loop that counts up to N. -/
theorem CW.count {c : Code} (N : Nat) (I : Nat → Env → List Deferred → Chunk → Prop) (h0 : I 0 ρ ds L)
    (round : ∀ i ρ ds L, i ≤ N → I i ρ ds L → CW P w0 rd n c (thenK (fun ρ' ds' L' => i < N ∧ I (i + 1) ρ' ds' L') K) ρ ds L) : CW P w0 rd n (.loop c) K ρ ds L := by
  refine CW.loop (fun m ρ ds L => ∃ i, m + i = N ∧ I i ρ ds L) N ⟨0, rfl, h0⟩ ?_
  rintro m ρ ds L ⟨i, hm, hi⟩
  refine CW.mono (round i ρ ds L (by omega) hi) fun e ρ' ds' L' h => ?_
  cases e with
  | normal => exact ⟨m - 1, by have := h.1; omega, i + 1, by have := h.1; omega, h.2⟩
  | _ => exact h
end count

theorem Rd.open1 {L : Chunk} {n : Nat} {v : Value} {xs : List Value} (h : Rd L 1 v n xs) (hn : n ≠ 0) :
    ∃ b k cap l e fr, v = .slice (some ⟨b, k, none⟩) n cap ∧ InC L b (.cells (List.toArray l) e fr) ∧ n ≤ cap ∧ ∀ i x, i < n → xs[i]? = some x → NthL l (k + i) x := by
  obtain ⟨b, k, cap, l, e, fr, h1, h2, h3, h4⟩ := h.open hn
  refine ⟨b, k, cap, l, e, fr, h1, h2, h3, fun i x hi hx => ?_⟩
  have := h4 i hi
  rw [Nat.mul_one] at this
  refine this.nth ?_
  have hl := h.1
  have hi' : i < xs.length := by omega
  rw [List.getElem?_eq_getElem hi'] at hx
  cases hx
  rw [List.drop_eq_getElem_cons hi']
  rfl
theorem wrap_u8 (x : Int) : IntKind.u8.wrap x = x % 256 := by
  simp [IntKind.wrap, IntKind.bits, IntKind.signed]
theorem shr8 {n : Int} (i : Nat) (h : i ≤ 8) (h0 : 0 ≤ n) : shrV .u64 n (8 * (i : Int)) = n / 256 ^ i := by
  have e1 : min (8 * (i : Int)).toNat IntKind.u64.bits = 8 * i := by
    have : (8 * (i : Int)).toNat = 8 * i := by omega
    rw [this]; show min (8 * i) 64 = _; omega
  unfold shrV
  rw [e1, Int.pow_mul]
  have : (2 : Int) ^ 8 = 256 := rfl
  rw [this, Int.fdiv_eq_ediv_of_nonneg _ (Int.pow_nonneg (by decide))]
theorem bv_app (xs ys : List Int) : bv (xs ++ ys) = bv xs ++ bv ys := by simp [bv]
theorem bv_get {xs : List Int} {i : Nat} (h : i < xs.length) : (bv xs)[i]? = some (.int .u8 xs[i]) := by simp [bv, h]
/-- Numbers as values. -/
def iv (xs : List Int) : List Value := xs.map (Value.int .i64)
theorem iv_get {xs : List Int} {i : Nat} (h : i < xs.length) : (iv xs)[i]? = some (.int .i64 xs[i]) := by simp [iv, h]
class FillA (n : Nat) (cells : List Value) (parts : List (Nat × Value)) (out : outParam (List Value)) : Prop where
  out : Instr.fill (fun i => some (i * n, n)) cells.toArray parts = some out.toArray
instance fillANil {n : Nat} {cells : List Value} : FillA n cells [] cells := ⟨rfl⟩
instance fillACons {cells cells' out vs : List Value} {i off n : Nat} {v : Value} {parts : List (Nat × Value)}
    [hm : MulN i n off] [hc : CellsL v vs] [hl : LenL vs n] [hput : PutL cells off vs cells'] [hf : FillA n cells' parts out] : FillA n cells ((i, v) :: parts) out := ⟨by
  have h2 : v.cells.size = n := by rw [hc.out]; simp [hl.out]
  have h3 := hput.out.1
  have hm' := hm.out
  have h4 : (v.cells.zipIdx.foldl (fun cs (c, j) => cs.setIfInBounds (off + j) c) cells.toArray) = cells'.toArray := by
    apply Array.ext'
    rw [hc.out, ← Array.foldl_toList]
    have := foldl_put off vs 0 cells.toArray (by simpa using h3)
    simp only [Nat.add_zero] at this
    rw [← hput.out.2]
    simpa using this
  simp only [Instr.fill, hm']
  rw [if_neg (by rw [h2, ← hl.out]; simp; omega), h4]
  exact hf.out⟩
section
variable {P : Program} {ρ : Env} {L : Chunk} {ty : TypeId}
instance op1BuildArr {t e : TypeId} {m n : Nat} {z out : List Value} {parts : List (Nat × Operand)} {vparts : List (Nat × Value)}
    [hp : Und P t (.array m e)] [hs : Siz P e n] [hz : Zer P t (.agg z.toArray)] [he : EvP ρ parts vparts] [hf : FillA n z vparts out] : Op1 P ρ L (.build t parts.toArray) ty (.agg out.toArray) :=
  ⟨yl_of_run (fun c h => (by cases h)) fun w o ho _ _ => by
    have h3 : (parts.toArray.map fun (i, x) => (i, ev ρ x)).toList = vparts := by rw [← he.out]; simp
    unfold execOp
    simp only [ho, Instr.build, Sem.run_bind, hz.out, Result.andThen_ok, run_underlying hp.out, hs.out, h3, Value.cells, hf.out, Sem.run_pure]⟩
end
section rounds
variable {P : Program} {w0 : World} {rd : Option Nat} {n : Nat} {K : Post} {ρ : Env} {ds : List Deferred} {L : Chunk}
variable {assign body : Code} {D lp : Nat} {rec : LoopState → Option Code → Obj} {Φ : Value → Chunk → Prop}
/-- A round begins. -/
theorem beginR {L₁ : Chunk} [h1 : InC L lp (rec .ready none)] [h2 : UpdC L lp (rec .busy none) L₁] (h : CW P w0 rd n body K ρ ds L₁) :
    ∃ L₁, InC L lp (rec .ready none) ∧ UpdC L lp (rec .busy none) L₁ ∧ CW P w0 rd n body K ρ ds L₁ := ⟨L₁, h1, h2, h⟩
theorem VP.yield0 (hrec : IsRec n ρ #[] assign body D rec) [hin : InC L lp (rec .ready none)]
    (h : ∀ w0, CW P w0 (some lp) n assign (thenK (fun ρ' ds' L' => ∃ L₁, InC L' lp (rec .ready none) ∧ UpdC L' lp (rec .busy none) L₁ ∧ CW P w0 (some lp) n body (roundK lp rec Φ) ρ' ds' L₁) (fun _ _ _ _ => False)) ρ [] L) :
    VP P (.func (.yield lp) #[] #[]) [] L Φ noPanic := VP.yield hrec hin rfl (by simp) h
theorem VP.yield1 {p : Tmp} {a : Value} (hrec : IsRec n ρ #[p] assign body D rec) [hin : InC L lp (rec .ready none)] (hp : p < n)
    (h : ∀ w0, CW P w0 (some lp) n assign (thenK (fun ρ' ds' L' => ∃ L₁, InC L' lp (rec .ready none) ∧ UpdC L' lp (rec .busy none) L₁ ∧ CW P w0 (some lp) n body (roundK lp rec Φ) ρ' ds' L₁) (fun _ _ _ _ => False)) (upd ρ p a) [] L) :
    VP P (.func (.yield lp) #[] #[]) [a] L Φ noPanic := VP.yield hrec hin rfl (by simp [hp]) h
theorem VP.yield2 {p q : Tmp} {a b : Value} (hrec : IsRec n ρ #[p, q] assign body D rec) [hin : InC L lp (rec .ready none)] (hp : p < n) (hq : q < n)
    (h : ∀ w0, CW P w0 (some lp) n assign (thenK (fun ρ' ds' L' => ∃ L₁, InC L' lp (rec .ready none) ∧ UpdC L' lp (rec .busy none) L₁ ∧ CW P w0 (some lp) n body (roundK lp rec Φ) ρ' ds' L₁) (fun _ _ _ _ => False)) (upd (upd ρ p a) q b) [] L) :
    VP P (.func (.yield lp) #[] #[]) [a, b] L Φ noPanic := VP.yield hrec hin rfl (by simp [hp, hq]) h
end rounds
/-! a loop of few rounds, walked round by round -/
section unroll
variable {P : Program} {w0 : World} {rd : Option Nat} {n : Nat} {K : Post} {ρ : Env} {ds : List Deferred} {L : Chunk}
def loopK (P : Program) (w0 : World) (rd : Option Nat) (n : Nat) (c : Code) (K : Post) : Nat → Post
  | 0, .normal, _, _, _ => False
  | m + 1, .normal, ρ, ds, L => CW P w0 rd n c (loopK P w0 rd n c K m) ρ ds L
  | _, e, ρ, ds, L => K e ρ ds L
theorem CW.loopU {c : Code} (m : Nat) (h : CW P w0 rd n c (loopK P w0 rd n c K m) ρ ds L) : CW P w0 rd n (.loop c) K ρ ds L := by
  refine CW.loop (fun j ρ ds L => CW P w0 rd n c (loopK P w0 rd n c K j) ρ ds L) m h ?_
  intro j ρ ds L h
  refine CW.mono h fun e ρ' ds' L' hk => ?_
  cases e <;> cases j <;> first | exact hk.elim | exact ⟨_, Nat.lt_succ_self _, hk⟩ | exact hk
variable {c : Code} {m : Nat}
theorem loopK_n (h : CW P w0 rd n c (loopK P w0 rd n c K m) ρ ds L) : loopK P w0 rd n c K (m + 1) .normal ρ ds L := h
theorem loopK_ret (h : K .ret ρ ds L) : loopK P w0 rd n c K m .ret ρ ds L := by cases m <;> exact h
theorem loopK_exit {id : Nat} (h : K (.exit id) ρ ds L) : loopK P w0 rd n c K m (.exit id) ρ ds L := by cases m <;> exact h
theorem loopK_goto {id : Nat} (h : K (.goto id) ρ ds L) : loopK P w0 rd n c K m (.goto id) ρ ds L := by cases m <;> exact h
theorem loopK_steady (h : Steady K) : Steady (loopK P w0 rd n c K m) := by cases m <;> exact h
instance stdLoop [h : StdC K] : StdC (loopK P w0 rd n c K m) := ⟨loopK_steady h.out⟩

/-- A drawn region with what stays named. -/
theorem CW.drawsR {id : Nat} {l : List Oper} (R : Chunk) (is : List Nat) (hm : P.follows .mixedOrders = true) (hok : regionOk n l.toArray is = true) [hK : StdC K] [hR : MemC R L]
    {l' : List Oper} [hp : Pick l is l'] (h : RW P w0 rd n l.toArray K l' R ρ ds L) : CW P w0 rd n (.region id l.toArray true) K ρ ds L := CW.draws is hm hok hK.out R hR.out (hp.out ▸ h)
end unroll

theorem Row.slice {e : TypeId} {s n : Nat} {N : Chunk} {v : Value} {xs : List Value} (h : Row e s N v n xs) : ∃ a c, v = .slice a n c := by
  rcases h.2 with ⟨rfl, rfl, rfl⟩ | ⟨b, cap, rest, rfl, _⟩
  · exact ⟨_, _, rfl⟩
  · exact ⟨_, _, rfl⟩
theorem Row.sng {e : TypeId} {s n : Nat} {N : Chunk} {v : Value} {xs : List Value} (h : Row e s N v n xs) : Sng v := by obtain ⟨a, c, rfl⟩ := h.slice; infer_instance
theorem Row.build {e : TypeId} {s n b : Nat} {l : List Value} (h : l.length = n * s) : Row e s [(b, .cells l.toArray e (0, 0))] (.slice (some ⟨b, 0, none⟩) n n) n l :=
  ⟨h, .inr ⟨b, n, [], rfl, by simp, Nat.le_refl _, by simpa using h⟩⟩
theorem bv_sng (xs : List Int) : ∀ v ∈ bv xs, Sng v := fun v h => by
  simp only [bv, List.mem_map] at h
  obtain ⟨x, _, rfl⟩ := h
  infer_instance
section drawsE
variable {P : Program} {w0 : World} {rd : Option Nat} {n : Nat} {K : Post} {ρ : Env} {ds : List Deferred} {L : Chunk}
/-- A drawn region; the last effect may change what stayed so far. -/
theorem CW.drawsE {id : Nat} {l : List Oper} (R : Chunk) (is : List Nat) (k : Nat) (hm : P.follows .mixedOrders = true) (hok : regionOkE n l.toArray is k = true) [hK : StdC K] [hR : MemC R L]
    {l0 l1 : List Oper} [h0 : Pick l is l0] [h1 : Pick l [k] l1] (h : RW P w0 rd n l.toArray (thenK (fun ρ ds L => OW P w0 rd n l.toArray K l1 ρ ds L) K) l0 R ρ ds L) : CW P w0 rd n (.region id l.toArray true) K ρ ds L :=
  CW.draws_end is k hm hok hK.out R hR.out (by rw [h0.out, h1.out]; exact h)
end drawsE
end Go.Pw

namespace Go.Pw
instance (priority := low) subApp2 {A A' B B' : Chunk} [h1 : SubC A' A] [h2 : SubC B' B] : SubC (A' ++ B') (A ++ B) := ⟨List.Sublist.append h1.out h2.out⟩
section
variable {P : Program} {w0 : World} {rd : Option Nat} {n : Nat} {K : Post} {ρ : Env} {ds : List Deferred} {L : Chunk} {c : Code} {m id : Nat} {ch : List PanicEntry} {next : Env → List Deferred → Chunk → Prop}
theorem thenK_p (h : K (.panic ch) ρ ds L) : thenK next K (.panic ch) ρ ds L := h
theorem blockK_p (h : K (.panic ch) ρ ds L) : blockK id K (.panic ch) ρ ds L := h
theorem scopeK_p (h : K (.panic ch) ρ ds L) : scopeK P w0 rd n c K m (.panic ch) ρ ds L := by cases m <;> exact h
theorem loopK_p (h : K (.panic ch) ρ ds L) : loopK P w0 rd n c K m (.panic ch) ρ ds L := by cases m <;> exact h
variable {fn : Func} {Φ : Value → Chunk → Prop} {Ψ : List PanicEntry → Chunk → Prop}
theorem bodyK.pnc (L' : Chunk) [hs : SubC L' L] (h : Ψ ch L') : bodyK P fn Φ Ψ (.panic ch) ρ [] L := ⟨rfl, L', hs.out, h⟩
end
/-- Two pieces of what is known, and what lies round them. -/
class At2 (L M1 M2 : Chunk) (C : outParam (Chunk → Chunk → Chunk)) : Prop where out : ∃ A B E, L = A ++ M1 ++ B ++ M2 ++ E ∧ ∀ X Y, C X Y = A ++ X ++ B ++ Y ++ E
instance at2Here {L M2 : Chunk} {b : Nat} {o : Obj} {C : Chunk → Chunk} [h : At L M2 C] : At2 ((b, o) :: L) [(b, o)] M2 (fun X Y => X ++ C Y) := ⟨by
  obtain ⟨A, B, h1, h2⟩ := h.out; exact ⟨[], A, B, by simp [h1], fun X Y => by simp [h2]⟩⟩
instance at2Cons {L M1 M2 : Chunk} {p : Nat × Obj} {C : Chunk → Chunk → Chunk} [h : At2 L M1 M2 C] : At2 (p :: L) M1 M2 (fun X Y => p :: C X Y) := ⟨by
  obtain ⟨A, B, E, h1, h2⟩ := h.out; exact ⟨p :: A, B, E, by simp [h1], fun X Y => by simp [h2]⟩⟩
instance at2Right {A L M1 M2 : Chunk} {C : Chunk → Chunk → Chunk} [h : At2 L M1 M2 C] : At2 (A ++ L) M1 M2 (fun X Y => A ++ C X Y) := ⟨by
  obtain ⟨A', B, E, h1, h2⟩ := h.out; exact ⟨A ++ A', B, E, by simp [h1], fun X Y => by simp [h2]⟩⟩
instance at2App {M1 M2 B : Chunk} {C : Chunk → Chunk} [h : At B M2 C] : At2 (M1 ++ B) M1 M2 (fun X Y => X ++ C Y) := ⟨by
  obtain ⟨A', B', h1, h2⟩ := h.out; exact ⟨[], A', B', by simp [h1], fun X Y => by simp [h2]⟩⟩
end Go.Pw

namespace Go.Pw
section
variable {P : Program} {w0 : World} {rd : Option Nat} {n : Nat} {ρ : Env} {ds : List Deferred} {L : Chunk}
theorem DSpec.mono {f : FuncId} {args : List Value} {u : FrameMode} {R R' : Ending → FrameMode → Chunk → Prop} (h : DSpec P w0 f args u L R) (hr : ∀ e u' L', R e u' L' → R' e u' L') : DSpec P w0 f args u L R' :=
  fun w hs => CallsDIn.mono (h w hs) fun e u' w' ⟨L', a, b⟩ => ⟨L', a, hr e u' L' b⟩
variable {fn : Func} {Φ : Value → Chunk → Prop} {Ψ : List PanicEntry → Chunk → Prop} {v : Value}
theorem lv_one {f : FuncId} {cap args : Array Value} {u : FrameMode} [he : Entr P f] {L2 : Chunk} (L3 : Chunk) [hs : SubC L3 L2] (hu : u ≠ .run) (hd : DSpec P w0 f (args.toList ++ cap.toList) u L (fun e u' L' => (∃ v, e = .returned v) ∧ settle u' = .returning ∧ L' = L2))
    (hr : Res P fn ρ L2 v) (h : Φ v L3) : Lv P w0 fn Φ Ψ [{ target := .fn (.func f) cap, args := args }] u ρ L :=
  ⟨hu, .inr ⟨f, cap, args, rfl, he, hd.mono fun e u' L' ⟨⟨v', e1⟩, e2, e3⟩ => by
    subst e1 e3
    show Lv P w0 fn Φ Ψ [] (settle u') ρ L'
    rw [e2]
    exact ⟨v, L3, hs.out, hr, h⟩⟩⟩
theorem bodyM.retDef {f : FuncId} {cap args : Array Value} [he : Entr P f] {L2 : Chunk} (L3 : Chunk) [hs : SubC L3 L2] (hd : DSpec P w0 f (args.toList ++ cap.toList) .returning L (fun e u' L' => (∃ v, e = .returned v) ∧ settle u' = .returning ∧ L' = L2))
    (hr : Res P fn ρ L2 v) (h : Φ v L3) : bodyM P w0 fn Φ Ψ .ret ρ [{ target := .fn (.func f) cap, args := args }] L := lv_one L3 (by simp) hd hr h
theorem bodyM.pncDef {f : FuncId} {cap args : Array Value} {ch : List PanicEntry} [he : Entr P f] {L2 : Chunk} (L3 : Chunk) [hs : SubC L3 L2] (hd : DSpec P w0 f (args.toList ++ cap.toList) (.panicking ch) L (fun e u' L' => (∃ v, e = .returned v) ∧ settle u' = .returning ∧ L' = L2))
    (hr : Res P fn ρ L2 v) (h : Φ v L3) : bodyM P w0 fn Φ Ψ (.panic ch) ρ [{ target := .fn (.func f) cap, args := args }] L := lv_one L3 (by simp) hd hr h
/-- A mark ahead of it. -/
theorem lv_mark {D : Nat} {ds : List Deferred} {u : FrameMode} {L1 : Chunk} (hu : u ≠ .run) [hi : InC L D (.deferred (some []))] [hup : UpdC L D (.deferred none) L1] (h : Lv P w0 fn Φ Ψ ds u ρ L1) : Lv P w0 fn Φ Ψ (mk D :: ds) u ρ L :=
  ⟨hu, .inl ⟨D, L1, rfl, hi, hup, h⟩⟩
theorem bodyM.ret_lv (h : Lv P w0 fn Φ Ψ ds .returning ρ L) : bodyM P w0 fn Φ Ψ .ret ρ ds L := h
theorem bodyM.pnc_lv {ch : List PanicEntry} (h : Lv P w0 fn Φ Ψ ds (.panicking ch) ρ L) : bodyM P w0 fn Φ Ψ (.panic ch) ρ ds L := h
end
end Go.Pw

namespace Go.Pw
section
variable {P : Program} {w0 : World} {rd : Option Nat} {n : Nat} {K : Post} {ρ : Env} {ds : List Deferred} {L : Chunk} {ops : Array Oper} {l : List Oper} {d : Nat} {pos : String} {after : Array Edge} {ty : TypeId}
theorem yl_slCap {t e : TypeId} {x hi : Operand} {s m c b k h' : Nat} {kk : IntKind} {j : Int} (ht : Und P t (.slice e)) (hz : Siz P e s) (hx : EvO ρ x (.slice (some ⟨b, k, none⟩) m c)) (hh : EvO ρ hi (.int kk j)) (hj : ToN j h') (h : 0 ≤ j ∧ j ≤ c) :
    Yl P ρ L (.slice t x none (some hi) none) ty (.slice (some ⟨b, k, none⟩) h' c) :=
  yl_of_run (fun c h => (by cases h)) fun w o ho _ _ => by
    have hjn := hj.out
    have hadd : (⟨b, k, none⟩ : Addr).add 0 = ⟨b, k, none⟩ := by simp [Addr.add]
    unfold execOp
    simp [ho, hx.out, hh.out, Instr.sliceAt, Instr.slice, Instr.sliceBounds, Instr.sliceBound, asIntOf, run_underlying ht.out, h.1, h.2, hz.out, hjn, hadd]
theorem OW.slCap {t e : TypeId} {x hi : Operand} {s m c b k h' : Nat} {kk : IntKind} {j : Int} [ht : Und P t (.slice e)] [hz : Siz P e s] [hx : EvO ρ x (.slice (some ⟨b, k, none⟩) m c)] [hh : EvO ρ hi (.int kk j)] [hj : ToN j h'] (h : 0 ≤ j ∧ j ≤ c)
    (next : OW P w0 rd n ops K l (upd ρ d (.slice (some ⟨b, k, none⟩) h' c)) ds L) : OW P w0 rd n ops K (⟨some d, .slice t x none (some hi) none, ty, pos, after, none⟩ :: l) ρ ds L := OW.val (yl_slCap ht hz hx hh hj h) next
end
end Go.Pw

namespace Go.Pw
theorem run_partInt {P : Program} {w : World} {t : TypeId} {l : List Value} {k : Nat} {v : Value} [ha : Agg P t false] [h : NthL l k v] : (part t l.toArray k).run P w = .ok v w := by
  have := h.out
  have h2 : l.toArray[k]? = some v := by simpa using this
  unfold part
  simp [ha.out, h2]
/-- A struct of two integers. -/
theorem eq_two {P : Program} {t t1 t2 : TypeId} {k1 k2 : IntKind} {f1 f2 : Field} (hf : P.underlying t = some (.struct #[f1, f2])) (h1 : f1.type = t1 ∧ f1.offset = 0 ∧ f1.name ≠ "_") (h2 : f2.type = t2 ∧ f2.offset = 1 ∧ f2.name ≠ "_") [u1 : Und P t1 (.int k1)] [u2 : Und P t2 (.int k2)] [a1 : Agg P t1 false] [a2 : Agg P t2 false]
    (hs : P.stoodInHeld t = false) (w : World) (a b c d : Int) : (Op.equalIn 10000 t (.agg #[.int k1 a, .int k2 b]) (.agg #[.int k1 c, .int k2 d])).run P w = .ok (decide (a = c ∧ b = d)) w := by
  have hfo : P.fieldsOf t = #[f1, f2] := by simp [Program.fieldsOf, hf]
  rw [run_equalIn_struct w 9999 t _ _ (by rw [hfo]; exact hf) hs, hfo]
  have e1 : (Op.equalIn 9999 t1 (.int k1 a) (.int k1 c)).run P w = .ok (a == c) w := run_equalIn_int (P := P) w 9998 t1 k1 k1 a c u1.out
  have e2 : (Op.equalIn 9999 t2 (.int k2 b) (.int k2 d)).run P w = .ok (b == d) w := run_equalIn_int (P := P) w 9998 t2 k2 k2 b d u2.out
  have p1 : (part t1 #[.int k1 a, .int k2 b] 0).run P w = .ok (.int k1 a) w := run_partInt (l := [.int k1 a, .int k2 b])
  have p2 : (part t2 #[.int k1 a, .int k2 b] 1).run P w = .ok (.int k2 b) w := run_partInt (l := [.int k1 a, .int k2 b])
  have p3 : (part t1 #[.int k1 c, .int k2 d] 0).run P w = .ok (.int k1 c) w := run_partInt (l := [.int k1 c, .int k2 d])
  have p4 : (part t2 #[.int k1 c, .int k2 d] 1).run P w = .ok (.int k2 d) w := run_partInt (l := [.int k1 c, .int k2 d])
  simp only [Op.eqFields, h1.1, h1.2.1, h1.2.2, h2.1, h2.2.1, h2.2.2, ne_eq, not_false_eq_true, if_true, Sem.run_bind, p1, p2, p3, p4, Result.andThen_ok, e1, e2, Sem.run_ite]
  have f1' : (a == c) = decide (a = c) := beq_dec a c
  have f2' : (b == d) = decide (b = d) := beq_dec b d
  rw [f1', f2']
  by_cases ha : a = c <;> by_cases hb : b = d <;> simp [ha, hb]
/-- An array of two integers. -/
theorem eq_arr2 {P : Program} {t e : TypeId} {k : IntKind} (hf : P.underlying t = some (.array 2 e)) [u1 : Und P e (.int k)] [a1 : Agg P e false] {i : TypeInfo} (hi : P.info? e = some i) (hc : P.cellsOf e = 1) (w : World) (a b c d : Int) :
    (Op.equalIn 10000 t (.agg #[.int k a, .int k b]) (.agg #[.int k c, .int k d])).run P w = .ok (decide (a = c ∧ b = d)) w := by
  rw [run_equalIn_array w 9999 _ _ hf hi, hc]
  have e1 : (Op.equalIn 9999 e (.int k a) (.int k c)).run P w = .ok (a == c) w := run_equalIn_int (P := P) w 9998 e k k a c u1.out
  have e2 : (Op.equalIn 9999 e (.int k b) (.int k d)).run P w = .ok (b == d) w := run_equalIn_int (P := P) w 9998 e k k b d u1.out
  have p1 : (part e #[.int k a, .int k b] 0).run P w = .ok (.int k a) w := run_partInt (l := [.int k a, .int k b])
  have p2 : (part e #[.int k a, .int k b] 1).run P w = .ok (.int k b) w := run_partInt (l := [.int k a, .int k b])
  have p3 : (part e #[.int k c, .int k d] 0).run P w = .ok (.int k c) w := run_partInt (l := [.int k c, .int k d])
  have p4 : (part e #[.int k c, .int k d] 1).run P w = .ok (.int k d) w := run_partInt (l := [.int k c, .int k d])
  have hr : List.range 2 = [0, 1] := rfl
  simp only [hr, Op.eqItems, Nat.zero_mul, Nat.one_mul, Sem.run_bind, p1, p2, p3, p4, Result.andThen_ok, e1, e2, Sem.run_ite]
  have f1' : (a == c) = decide (a = c) := beq_dec a c
  have f2' : (b == d) = decide (b = d) := beq_dec b d
  rw [f1', f2']
  by_cases ha : a = c <;> by_cases hb : b = d <;> simp [ha, hb]
end Go.Pw

namespace Go.Pw.Sc

structure Turn where
  kind : Int
  slot : Int
  quota : Int
  thread : Int
  hslot : Int
  hgen : Int
  okind : Int
  oat : Int
  osize : Int
  omult : Int
  omany : Int
  obytes : List Int
  draws : List Int
deriving DecidableEq

structure Life where
  frames : Int
  key : Int
  h0 : Int
  h1 : Int
  turns : List Turn
deriving DecidableEq

def Turn.zero : Turn := ⟨0, 0, 0, 0, 0, 0, 0, 0, 0, 0, 0, [], []⟩
def Life.zero : Life := ⟨0, 0, 0, 0, []⟩

/-- A number's bytes, the lowest ahead; and back. -/
def leB : Nat → Int → List Int
  | 0, _ => []
  | k + 1, n => n % 256 :: leB k (n / 256)
def leN : List Int → Int
  | [] => 0
  | x :: xs => x + 256 * leN xs
theorem leB_length : ∀ k n, (leB k n).length = k
  | 0, _ => rfl
  | k + 1, n => by simp [leB, leB_length k]
theorem leB_snoc : ∀ (k : Nat) (n : Int), leB (k + 1) n = leB k n ++ [n / 256 ^ k % 256]
  | 0, n => by simp [leB]
  | k + 1, n => by
    rw [leB, leB_snoc k (n / 256), leB, List.cons_append, Int.ediv_ediv_of_nonneg (by omega), Int.pow_succ, Int.mul_comm]
theorem leB_byt : ∀ (k : Nat) (n : Int), Byt8 (leB k n)
  | 0, _ => fun _ h => by cases h
  | k + 1, n => fun x h => by
    rcases List.mem_cons.1 h with rfl | h
    · omega
    · exact leB_byt k _ x h
theorem leN_leB : ∀ (k : Nat) (n : Int), 0 ≤ n → n < 256 ^ k → leN (leB k n) = n
  | 0, n, h0, h1 => by simp [leB, leN] at *; omega
  | k + 1, n, h0, h1 => by
    have h2 : n / 256 < 256 ^ k := by rw [Int.pow_succ] at h1; omega
    rw [leB, leN, leN_leB k (n / 256) (by omega) h2]
    omega
theorem leN_nonneg : ∀ (xs : List Int), Byt8 xs → 0 ≤ leN xs
  | [], _ => by simp [leN]
  | x :: xs, h => by
    have := leN_nonneg xs (fun y hy => h y (List.mem_cons_of_mem _ hy))
    have h1 := h x (List.mem_cons_self ..)
    simp only [leN]
    omega
theorem leN_lt : ∀ (xs : List Int), Byt8 xs → leN xs < 256 ^ xs.length
  | [], _ => by simp [leN]
  | x :: xs, h => by
    have := leN_lt xs (fun y hy => h y (List.mem_cons_of_mem _ hy))
    have h1 := h x (List.mem_cons_self ..)
    simp only [leN, List.length_cons, Int.pow_succ]
    omega
theorem leB_leN : ∀ (xs : List Int), Byt8 xs → leB xs.length (leN xs) = xs
  | [], _ => rfl
  | x :: xs, h => by
    have h1 := h x (List.mem_cons_self ..)
    have h2 := leB_leN xs (fun y hy => h y (List.mem_cons_of_mem _ hy))
    simp only [List.length_cons, leB, leN]
    have e1 : (x + 256 * leN xs) % 256 = x := by omega
    have e2 : (x + 256 * leN xs) / 256 = leN xs := by omega
    rw [e1, e2, h2]

def isW (k : Int) : Prop := k = 1 ∨ k = 2 ∨ k = 4 ∨ k = 8
instance (k : Int) : Decidable (isW k) := by unfold isW; infer_instance

def most : Int := 2147483647
def InB (n b : Int) : Prop := 0 ≤ n ∧ n ≤ b
instance (n b : Int) : Decidable (InB n b) := by unfold InB; infer_instance

def hasH (k : Int) : Prop := k = 2 ∨ k = 3 ∨ k = 5
instance (k : Int) : Decidable (hasH k) := by unfold hasH; infer_instance
def hasT (k : Int) : Prop := 3 ≤ k ∧ k ≤ 6
instance (k : Int) : Decidable (hasT k) := by unfold hasT; infer_instance

/-- A turn with just what its kind needs. -/
def bare (t : Turn) : Turn :=
  { kind := t.kind, slot := if t.kind = 1 then t.slot else 0, quota := if t.kind = 1 then t.quota else 0, thread := if hasT t.kind then t.thread else 0,
    hslot := if hasH t.kind then t.hslot else 0, hgen := if hasH t.kind then t.hgen else 0,
    okind := if t.kind = 5 then t.okind else 0, oat := if t.kind = 5 then t.oat else 0, osize := if t.kind = 5 then t.osize else 0, omult := if t.kind = 5 then t.omult else 0, omany := if t.kind = 5 then t.omany else 0,
    obytes := if t.kind = 5 then t.obytes else [], draws := if t.kind = 6 then t.draws else [] }

def Right (t : Turn) : Prop :=
  (1 ≤ t.kind ∧ t.kind ≤ 6) ∧ InB t.slot 255 ∧ InB t.quota most ∧ InB t.thread 255 ∧ (InB t.hslot 255 ∧ InB t.hgen most) ∧ InB t.okind 255 ∧ (t.obytes.length : Int) ≤ 65535 ∧ (t.draws.length : Int) ≤ 255 ∧ t = bare t
instance (t : Turn) : Decidable (Right t) := by unfold Right; infer_instance

/-- A turn's bytes. -/
def turnB (t : Turn) : List Int :=
  leB 1 t.kind ++ if t.kind = 1 then leB 1 t.slot ++ leB 4 t.quota else
    (if 3 ≤ t.kind then leB 1 t.thread else []) ++ (if hasH t.kind then leB 1 t.hslot ++ leB 4 t.hgen else []) ++
    (if t.kind = 5 then leB 1 t.okind ++ leB 4 t.oat ++ leB 8 t.osize ++ leB 8 t.omult ++ leB 8 t.omany ++ leB 2 t.obytes.length ++ t.obytes else []) ++
    (if t.kind = 6 then leB 1 t.draws.length ++ t.draws else [])
def turnsB (ts : List Turn) : List Int := (ts.map turnB).flatten
def encodeB (l : Life) : List Int := leB 4 l.frames ++ leB 8 l.key ++ leB 4 l.h0 ++ leB 4 l.h1 ++ turnsB l.turns

def FrOk (l : Life) : Prop := InB l.frames most ∧ InB l.h0 most ∧ InB l.h1 most
instance (l : Life) : Decidable (FrOk l) := by unfold FrOk; infer_instance
/-- Why a life has no bytes. -/
def check (l : Life) : Int :=
  if ¬ (FrOk l ∧ ∀ t ∈ l.turns, Right t) then 2 else if (encodeB l).length > 65536 then 3 else 0

/-- Reading. -/
abbrev Pa (α : Type) := List Int → Option (α × List Int)
def takeP (n : Nat) : Pa (List Int) := fun xs => if n ≤ xs.length then some (xs.take n, xs.drop n) else none
def numP (w : Nat) : Pa Int := fun xs => (takeP w xs).map fun (a, r) => (leN a, r)
def smallP : Pa Int := fun xs => (numP 4 xs).bind fun (a, r) => if a ≤ most then some (a, r) else none
def bind {α β : Type} (p : Pa α) (f : α → Pa β) : Pa β := fun xs => (p xs).bind fun (a, r) => f a r
def ret {α : Type} (a : α) : Pa α := fun xs => some (a, xs)
def whenP {α : Type} (c : Prop) [Decidable c] (p : Pa α) (d : α) : Pa α := if c then p else ret d

def handP : Pa (Int × Int) := bind (numP 1) fun a => bind smallP fun b => ret (a, b)
structure OpP where
  okind : Int
  oat : Int
  osize : Int
  omult : Int
  omany : Int
  obytes : List Int
def opP : Pa OpP := bind (numP 1) fun a => bind (numP 4) fun b => bind (numP 8) fun c => bind (numP 8) fun d => bind (numP 8) fun e => bind (numP 2) fun n => bind (takeP n.toNat) fun s => ret ⟨a, b, c, d, e, s⟩
def drawP : Pa (List Int) := bind (numP 1) fun n => takeP n.toNat
def turnP : Pa Turn := bind (numP 1) fun k =>
  if k < 1 ∨ 6 < k then fun _ => none
  else if k = 1 then bind (numP 1) fun s => bind smallP fun q => ret ⟨k, s, q, 0, 0, 0, 0, 0, 0, 0, 0, [], []⟩
  else bind (whenP (3 ≤ k) (numP 1) 0) fun th => bind (whenP (hasH k) handP (0, 0)) fun h =>
    bind (whenP (k = 5) opP ⟨0, 0, 0, 0, 0, []⟩) fun o => bind (whenP (k = 6) drawP []) fun d =>
    ret { kind := k, slot := 0, quota := 0, thread := th, hslot := h.1, hgen := h.2, okind := o.okind, oat := o.oat, osize := o.osize, omult := o.omult, omany := o.omany, obytes := o.obytes, draws := d }
def turnsP : Nat → List Int → Option (List Turn)
  | 0, _ => none
  | f + 1, xs => if xs = [] then some [] else (turnP xs).bind fun (t, r) => (turnsP f r).map (t :: ·)
def lifeP (xs : List Int) : Option Life :=
  (bind smallP (fun a => bind (numP 8) fun b => bind smallP fun c => bind smallP fun d => ret (a, b, c, d)) xs).bind fun ((a, b, c, d), r) => (turnsP (r.length + 1) r).map fun ts => ⟨a, b, c, d, ts⟩
def decode (xs : List Int) : Life × Int := if 65536 < xs.length then (Life.zero, 3) else match lifeP xs with
  | some l => (l, 0)
  | none => (Life.zero, 380)

def same (a b : Life) : Prop := a.frames = b.frames ∧ a.key = b.key ∧ (a.h0 = b.h0 ∧ a.h1 = b.h1) ∧ a.turns.map bare = b.turns.map bare
instance (a b : Life) : Decidable (same a b) := by unfold same; infer_instance
theorem same_refl (a : Life) : same a a := ⟨rfl, rfl, ⟨rfl, rfl⟩, rfl⟩
theorem same_symm {a b : Life} (h : same a b) : same b a := ⟨h.1.symm, h.2.1.symm, ⟨h.2.2.1.1.symm, h.2.2.1.2.symm⟩, h.2.2.2.symm⟩
theorem same_comm (a b : Life) : same a b ↔ same b a := ⟨same_symm, same_symm⟩

end Go.Pw.Sc

namespace Go.Pw.Sc

/-- A slice of bytes. -/
structure BS (L : Chunk) (v : Value) (xs : List Int) : Prop where
  rd : Rd L 1 v xs.length (bv xs)
  byt : Byt8 xs
  len : (xs.length : Int) ≤ 9223372036854775807
theorem bv_length (xs : List Int) : (bv xs).length = xs.length := by simp [bv]
theorem BS.to {L L' : Chunk} {v : Value} {xs : List Int} (h : BS L v xs) [hm : MemC L L'] : BS L' v xs := ⟨h.rd.to, h.byt, h.len⟩
theorem BS.nil (L : Chunk) : BS L (.slice none 0 0) [] := ⟨⟨rfl, .inl ⟨⟨_, _, rfl⟩, rfl⟩⟩, fun _ h => (by cases h), by simp⟩
theorem BS.slice {L : Chunk} {v : Value} {xs : List Int} (h : BS L v xs) : ∃ a c, v = .slice a xs.length c := let ⟨a, c, h, _⟩ := h.rd.isSlice; ⟨a, c, h⟩

theorem BS.sng {L : Chunk} {v : Value} {xs : List Int} (h : BS L v xs) : Sng v := by obtain ⟨a, c, rfl⟩ := h.slice; infer_instance

@[reducible] def tcells (t : Turn) (vb vd : Value) : List Value :=
  [.int .i64 t.kind, .int .i64 t.slot, .int .i64 t.quota, .int .i64 t.thread, .int .i64 t.hslot, .int .i64 t.hgen, .int .i64 t.okind, .int .u32 t.oat, .int .u64 t.osize, .int .u64 t.omult, .int .u64 t.omany, vb, vd]

/-- The numbers of a turn lie within their kinds. -/
structure TR (t : Turn) : Prop where
  kind : inR .i64 t.kind
  slot : inR .i64 t.slot
  quota : inR .i64 t.quota
  thread : inR .i64 t.thread
  hslot : inR .i64 t.hslot
  hgen : inR .i64 t.hgen
  okind : inR .i64 t.okind
  oat : inR .u32 t.oat
  osize : inR .u64 t.osize
  omult : inR .u64 t.omult
  omany : inR .u64 t.omany

theorem turn_eq (t u : Turn) : t = u ↔ t.kind = u.kind ∧ t.slot = u.slot ∧ t.quota = u.quota ∧ t.thread = u.thread ∧ (t.hslot = u.hslot ∧ t.hgen = u.hgen) ∧ t.draws = u.draws ∧ t.okind = u.okind ∧ t.oat = u.oat ∧ t.osize = u.osize ∧ t.omult = u.omult ∧ t.omany = u.omany ∧ t.obytes = u.obytes := by
  cases t; cases u; simp only [Turn.mk.injEq]
  constructor
  · rintro ⟨a, b, c, d, e, f, g, h, i, j, k, l, m⟩; exact ⟨a, b, c, d, ⟨e, f⟩, m, g, h, i, j, k, l⟩
  · rintro ⟨a, b, c, d, ⟨e, f⟩, m, g, h, i, j, k, l⟩; exact ⟨a, b, c, d, e, f, g, h, i, j, k, l, m⟩

/-- A turn's cells. -/
def TurnAt (L : Chunk) (c : List Value) (t : Turn) : Prop := ∃ vb vd, c = tcells t vb vd ∧ BS L vb t.obytes ∧ BS L vd t.draws ∧ TR t
theorem TurnAt.to {L L' : Chunk} {c : List Value} {t : Turn} (h : TurnAt L c t) [hm : MemC L L'] : TurnAt L' c t := let ⟨vb, vd, a, b, c, d⟩ := h; ⟨vb, vd, a, b.to, c.to, d⟩
theorem TurnAt.length {L : Chunk} {c : List Value} {t : Turn} (h : TurnAt L c t) : c.length = 13 := let ⟨_, _, a, _⟩ := h; a ▸ rfl

/-- A row of turns. -/
def TurnsAt (L : Chunk) : List Value → List Turn → Prop
  | xs, [] => xs = []
  | xs, t :: ts => ∃ c r, xs = c ++ r ∧ TurnAt L c t ∧ TurnsAt L r ts
theorem TurnsAt.mono {L L' : Chunk} (hm : ∀ p ∈ L, p ∈ L') : ∀ {xs : List Value} {ts : List Turn}, TurnsAt L xs ts → TurnsAt L' xs ts
  | _, [], h => h
  | _, _ :: _, ⟨c, r, e, h1, h2⟩ => ⟨c, r, e, @TurnAt.to _ _ _ _ h1 ⟨hm⟩, TurnsAt.mono hm h2⟩
theorem TurnsAt.to {L L' : Chunk} [hm : MemC L L'] {xs : List Value} {ts : List Turn} (h : TurnsAt L xs ts) : TurnsAt L' xs ts := h.mono hm.out
theorem TurnsAt.length {L : Chunk} : ∀ {xs : List Value} {ts : List Turn}, TurnsAt L xs ts → xs.length = ts.length * 13
  | xs, [], h => by have : xs = [] := h; simp [this]
  | _, t :: ts, ⟨c, r, e, h1, h2⟩ => by rw [e, List.length_append, h1.length, TurnsAt.length h2, List.length_cons]; omega
theorem TurnsAt.snoc {L : Chunk} : ∀ {xs : List Value} {ts : List Turn} {c : List Value} {t : Turn}, TurnsAt L xs ts → TurnAt L c t → TurnsAt L (xs ++ c) (ts ++ [t])
  | xs, [], c, t, h, h1 => by have : xs = [] := h; exact ⟨c, [], by simp [this], h1, rfl⟩
  | _, u :: ts, c, t, ⟨c', r, e, h1, h2⟩, h3 => ⟨c', r ++ c, by simp [e], h1, TurnsAt.snoc h2 h3⟩
theorem TurnsAt.get {L : Chunk} : ∀ {xs : List Value} {ts : List Turn} (i : Nat) (hi : i < ts.length), TurnsAt L xs ts → TurnAt L ((xs.drop (i * 13)).take 13) ts[i]
  | _, _ :: _, 0, _, ⟨c, r, e, h1, h2⟩ => by
    have := h1.length
    rw [e, Nat.zero_mul, List.drop_zero, List.take_append_of_le_length (by omega), List.take_of_length_le (by omega)]
    exact h1
  | _, _ :: ts, i + 1, hi, ⟨c, r, e, h1, h2⟩ => by
    have hl := h1.length
    have h3 := TurnsAt.get i (by simpa using hi) h2
    have e1 : (c ++ r).drop ((i + 1) * 13) = r.drop (i * 13) := by
      rw [show (i + 1) * 13 = c.length + i * 13 by omega, ← List.drop_drop, List.drop_left]
    rw [e, e1]
    exact h3

/-- A slice of turns. -/
structure TS (L : Chunk) (v : Value) (ts : List Turn) : Prop where
  rd : ∃ xs, Rd L 13 v ts.length xs ∧ TurnsAt L xs ts
  len : (ts.length : Int) ≤ 9223372036854775807
theorem TS.to {L L' : Chunk} {v : Value} {ts : List Turn} (h : TS L v ts) [hm : MemC L L'] : TS L' v ts := ⟨let ⟨xs, a, b⟩ := h.rd; ⟨xs, a.to, b.to⟩, h.len⟩
theorem TS.slice {L : Chunk} {v : Value} {ts : List Turn} (h : TS L v ts) : ∃ a c, v = .slice a ts.length c := let ⟨_, a, _⟩ := h.rd; let ⟨b, c, h, _⟩ := a.isSlice; ⟨b, c, h⟩
theorem TS.sng {L : Chunk} {v : Value} {ts : List Turn} (h : TS L v ts) : Sng v := by obtain ⟨a, c, rfl⟩ := h.slice; infer_instance
theorem TS.nil (L : Chunk) : TS L (.slice none 0 0) [] := ⟨⟨[], ⟨rfl, .inl ⟨⟨_, _, rfl⟩, rfl⟩⟩, rfl⟩, by simp⟩

@[reducible] def lcells (l : Life) (vt : Value) : List Value := [.int .i64 l.frames, .int .u64 l.key, .int .i64 l.h0, .int .i64 l.h1, vt]
structure LR (l : Life) : Prop where
  frames : inR .i64 l.frames
  key : inR .u64 l.key
  h0 : inR .i64 l.h0
  h1 : inR .i64 l.h1

theorem kinds (k : Int) : k = 1 ∨ k = 2 ∨ k = 3 ∨ k = 4 ∨ k = 5 ∨ k = 6 ∨ (k < 1 ∨ 6 < k) := by omega
theorem bare1 {t : Turn} (h : t.kind = 1) : bare t = ⟨t.kind, t.slot, t.quota, 0, 0, 0, 0, 0, 0, 0, 0, [], []⟩ := by simp [bare, hasH, hasT, h]
theorem bare2 {t : Turn} (h : t.kind = 2) : bare t = ⟨t.kind, 0, 0, 0, t.hslot, t.hgen, 0, 0, 0, 0, 0, [], []⟩ := by simp [bare, hasH, hasT, h]
theorem bare3 {t : Turn} (h : t.kind = 3) : bare t = ⟨t.kind, 0, 0, t.thread, t.hslot, t.hgen, 0, 0, 0, 0, 0, [], []⟩ := by simp [bare, hasH, hasT, h]
theorem bare4 {t : Turn} (h : t.kind = 4) : bare t = ⟨t.kind, 0, 0, t.thread, 0, 0, 0, 0, 0, 0, 0, [], []⟩ := by simp [bare, hasH, hasT, h]
theorem bare5 {t : Turn} (h : t.kind = 5) : bare t = ⟨t.kind, 0, 0, t.thread, t.hslot, t.hgen, t.okind, t.oat, t.osize, t.omult, t.omany, t.obytes, []⟩ := by simp [bare, hasH, hasT, h]
theorem bare6 {t : Turn} (h : t.kind = 6) : bare t = ⟨t.kind, 0, 0, t.thread, 0, 0, 0, 0, 0, 0, 0, [], t.draws⟩ := by simp [bare, hasH, hasT, h]
theorem bare7 {t : Turn} (h : t.kind < 1 ∨ 6 < t.kind) : bare t = ⟨t.kind, 0, 0, 0, 0, 0, 0, 0, 0, 0, 0, [], []⟩ := by
  have h1 : ¬ t.kind = 1 := by omega
  have h2 : ¬ hasH t.kind := by unfold hasH; omega
  have h3 : ¬ hasT t.kind := by unfold hasT; omega
  have h5 : ¬ t.kind = 5 := by omega
  have h6 : ¬ t.kind = 6 := by omega
  simp [bare, h1, h2, h3, h5, h6]
theorem bareA1 {L : Chunk} {t : Turn} {vb vd : Value} (hb : BS L vb t.obytes) (hd : BS L vd t.draws) (h : t.kind = 1) :
    ∃ vb' vd', Value.agg #[.int .i64 t.kind, .int .i64 t.slot, .int .i64 t.quota, .int .i64 0, .int .i64 0, .int .i64 0, .int .i64 0, .int .u32 0, .int .u64 0, .int .u64 0, .int .u64 0, .slice none 0 0, .slice none 0 0] = .agg (tcells (bare t) vb' vd').toArray ∧ BS L vb' (bare t).obytes ∧ BS L vd' (bare t).draws := by rw [bare1 h]; exact ⟨_, _, rfl, BS.nil L, BS.nil L⟩
theorem bareA2 {L : Chunk} {t : Turn} {vb vd : Value} (hb : BS L vb t.obytes) (hd : BS L vd t.draws) (h : t.kind = 2) :
    ∃ vb' vd', Value.agg #[.int .i64 t.kind, .int .i64 0, .int .i64 0, .int .i64 0, .int .i64 t.hslot, .int .i64 t.hgen, .int .i64 0, .int .u32 0, .int .u64 0, .int .u64 0, .int .u64 0, .slice none 0 0, .slice none 0 0] = .agg (tcells (bare t) vb' vd').toArray ∧ BS L vb' (bare t).obytes ∧ BS L vd' (bare t).draws := by rw [bare2 h]; exact ⟨_, _, rfl, BS.nil L, BS.nil L⟩
theorem bareA3 {L : Chunk} {t : Turn} {vb vd : Value} (hb : BS L vb t.obytes) (hd : BS L vd t.draws) (h : t.kind = 3) :
    ∃ vb' vd', Value.agg #[.int .i64 t.kind, .int .i64 0, .int .i64 0, .int .i64 t.thread, .int .i64 t.hslot, .int .i64 t.hgen, .int .i64 0, .int .u32 0, .int .u64 0, .int .u64 0, .int .u64 0, .slice none 0 0, .slice none 0 0] = .agg (tcells (bare t) vb' vd').toArray ∧ BS L vb' (bare t).obytes ∧ BS L vd' (bare t).draws := by rw [bare3 h]; exact ⟨_, _, rfl, BS.nil L, BS.nil L⟩
theorem bareA4 {L : Chunk} {t : Turn} {vb vd : Value} (hb : BS L vb t.obytes) (hd : BS L vd t.draws) (h : t.kind = 4) :
    ∃ vb' vd', Value.agg #[.int .i64 t.kind, .int .i64 0, .int .i64 0, .int .i64 t.thread, .int .i64 0, .int .i64 0, .int .i64 0, .int .u32 0, .int .u64 0, .int .u64 0, .int .u64 0, .slice none 0 0, .slice none 0 0] = .agg (tcells (bare t) vb' vd').toArray ∧ BS L vb' (bare t).obytes ∧ BS L vd' (bare t).draws := by rw [bare4 h]; exact ⟨_, _, rfl, BS.nil L, BS.nil L⟩
theorem bareA5 {L : Chunk} {t : Turn} {vb vd : Value} (hb : BS L vb t.obytes) (hd : BS L vd t.draws) (h : t.kind = 5) :
    ∃ vb' vd', Value.agg #[.int .i64 t.kind, .int .i64 0, .int .i64 0, .int .i64 t.thread, .int .i64 t.hslot, .int .i64 t.hgen, .int .i64 t.okind, .int .u32 t.oat, .int .u64 t.osize, .int .u64 t.omult, .int .u64 t.omany, vb, .slice none 0 0] = .agg (tcells (bare t) vb' vd').toArray ∧ BS L vb' (bare t).obytes ∧ BS L vd' (bare t).draws := by rw [bare5 h]; exact ⟨_, _, rfl, hb, BS.nil L⟩
theorem bareA6 {L : Chunk} {t : Turn} {vb vd : Value} (hb : BS L vb t.obytes) (hd : BS L vd t.draws) (h : t.kind = 6) :
    ∃ vb' vd', Value.agg #[.int .i64 t.kind, .int .i64 0, .int .i64 0, .int .i64 t.thread, .int .i64 0, .int .i64 0, .int .i64 0, .int .u32 0, .int .u64 0, .int .u64 0, .int .u64 0, .slice none 0 0, vd] = .agg (tcells (bare t) vb' vd').toArray ∧ BS L vb' (bare t).obytes ∧ BS L vd' (bare t).draws := by rw [bare6 h]; exact ⟨_, _, rfl, BS.nil L, hd⟩
theorem bareA7 {L : Chunk} {t : Turn} {vb vd : Value} (hb : BS L vb t.obytes) (hd : BS L vd t.draws) (h : t.kind < 1 ∨ 6 < t.kind) :
    ∃ vb' vd', Value.agg #[.int .i64 t.kind, .int .i64 0, .int .i64 0, .int .i64 0, .int .i64 0, .int .i64 0, .int .i64 0, .int .u32 0, .int .u64 0, .int .u64 0, .int .u64 0, .slice none 0 0, .slice none 0 0] = .agg (tcells (bare t) vb' vd').toArray ∧ BS L vb' (bare t).obytes ∧ BS L vd' (bare t).draws := by rw [bare7 h]; exact ⟨_, _, rfl, BS.nil L, BS.nil L⟩

/-- or of bytes that do not meet. -/
theorem or_bytes (a b : Nat) (ha : a < 2 ^ 56) (hb : b < 256) : bitsV .or .u64 ((a : Int) * 256) b = (a : Int) * 256 + b := by
  have h1 : (a <<< 8 ||| b) = a <<< 8 + b := (Nat.shiftLeft_add_eq_or_of_lt (by simpa using hb) a).symm
  have h2 : a <<< 8 = a * 256 := by rw [Nat.shiftLeft_eq]
  have e1 : (BitVec.ofInt 64 ((a : Int) * 256)) = BitVec.ofNat 64 (a * 256) := by
    rw [show ((a : Int) * 256) = ((a * 256 : Nat) : Int) by simp]
    exact BitVec.ofInt_natCast 64 (a * 256)
  have e2 : (BitVec.ofInt 64 (b : Int)) = BitVec.ofNat 64 b := BitVec.ofInt_natCast 64 b
  have e3 : (BitVec.ofNat 64 (a * 256) ||| BitVec.ofNat 64 b).toNat = a * 256 + b := by
    rw [BitVec.toNat_or, BitVec.toNat_ofNat, BitVec.toNat_ofNat, Nat.mod_eq_of_lt (by omega), Nat.mod_eq_of_lt (by omega), ← h2, h1]
  have e4 : bitsV .or .u64 ((a : Int) * 256) b = IntKind.u64.wrap ((BitVec.ofInt 64 ((a : Int) * 256) ||| BitVec.ofInt 64 (b : Int)).toNat : Int) := rfl
  rw [e4, e1, e2, e3, wrap_in (k := .u64) (by constructor <;> omega)]
  simp
end Go.Pw.Sc

namespace Go.Pw.Sc

theorem takeP_app {n : Nat} {a r : List Int} (h : a.length = n) : takeP n (a ++ r) = some (a, r) := by subst h; simp [takeP]
theorem takeP_inv {n : Nat} {xs a r : List Int} (h : takeP n xs = some (a, r)) : xs = a ++ r ∧ a.length = n := by
  unfold takeP at h
  split at h
  · simp only [Option.some.injEq, Prod.mk.injEq] at h
    obtain ⟨rfl, rfl⟩ := h
    exact ⟨(List.take_append_drop ..).symm, by simp; omega⟩
  · cases h
theorem numP_le {w : Nat} {n : Int} {r : List Int} (h0 : 0 ≤ n) (h1 : n < 256 ^ w) : numP w (leB w n ++ r) = some (n, r) := by
  simp [numP, takeP_app (leB_length w n), leN_leB w n h0 h1]
theorem byt_app {a b : List Int} : Byt8 (a ++ b) ↔ Byt8 a ∧ Byt8 b :=
  ⟨fun h => ⟨fun x hx => h x (List.mem_append_left _ hx), fun x hx => h x (List.mem_append_right _ hx)⟩, fun h x hx => (List.mem_append.1 hx).elim (h.1 x) (h.2 x)⟩
theorem numP_inv {w : Nat} {n : Int} {xs r : List Int} (h : numP w xs = some (n, r)) (hx : Byt8 xs) : xs = leB w n ++ r ∧ 0 ≤ n ∧ n < 256 ^ w ∧ Byt8 r := by
  unfold numP at h
  cases h1 : takeP w xs with
  | none => rw [h1] at h; cases h
  | some p =>
    obtain ⟨a, r'⟩ := p
    rw [h1] at h
    simp only [Option.map_some, Option.some.injEq, Prod.mk.injEq] at h
    obtain ⟨rfl, rfl⟩ := h
    obtain ⟨rfl, rfl⟩ := takeP_inv h1
    have hb := byt_app.1 hx
    exact ⟨by rw [leB_leN _ hb.1], leN_nonneg _ hb.1, leN_lt _ hb.1, hb.2⟩
theorem smallP_le {n : Int} {r : List Int} (h0 : 0 ≤ n) (h1 : n ≤ most) : smallP (leB 4 n ++ r) = some (n, r) := by
  unfold smallP
  rw [numP_le h0 (by unfold most at h1; have : (256 : Int) ^ 4 = 4294967296 := rfl; omega)]
  simp [h1]
theorem smallP_inv {n : Int} {xs r : List Int} (h : smallP xs = some (n, r)) (hx : Byt8 xs) : xs = leB 4 n ++ r ∧ InB n most ∧ Byt8 r := by
  unfold smallP at h
  cases h1 : numP 4 xs with
  | none => rw [h1] at h; cases h
  | some p =>
    obtain ⟨a, r'⟩ := p
    rw [h1] at h
    simp only [Option.bind_some] at h
    split at h
    · simp only [Option.some.injEq, Prod.mk.injEq] at h
      obtain ⟨rfl, rfl⟩ := h
      obtain ⟨e, h0, _, h2⟩ := numP_inv h1 hx
      exact ⟨e, ⟨h0, ‹_›⟩, h2⟩
    · cases h
theorem bind_of {α β : Type} {p : Pa α} {f : α → Pa β} {xs r : List Int} {a : α} (h : p xs = some (a, r)) : bind p f xs = f a r := by simp [bind, h]
theorem bind_inv {α β : Type} {p : Pa α} {f : α → Pa β} {xs r : List Int} {b : β} (h : bind p f xs = some (b, r)) : ∃ a r1, p xs = some (a, r1) ∧ f a r1 = some (b, r) := by
  unfold bind at h
  cases h1 : p xs with
  | none => rw [h1] at h; cases h
  | some q => rw [h1] at h; exact ⟨q.1, q.2, rfl, h⟩
theorem bind_no {α β : Type} {p : Pa α} {f : α → Pa β} {xs : List Int} (h : p xs = none) : bind p f xs = none := by simp [bind, h]
theorem ret_inv {α : Type} {a b : α} {xs r : List Int} (h : ret a xs = some (b, r)) : b = a ∧ r = xs := by
  unfold ret at h
  simp only [Option.some.injEq, Prod.mk.injEq] at h
  exact ⟨h.1.symm, h.2.symm⟩

theorem pow1 : (256 : Int) ^ 1 = 256 := rfl
theorem pow2 : (256 : Int) ^ 2 = 65536 := rfl
theorem pow4 : (256 : Int) ^ 4 = 4294967296 := rfl
theorem pow8 : (256 : Int) ^ 8 = 18446744073709551616 := rfl

theorem handP_le {a b : Int} {r : List Int} (ha : InB a 255) (hb : InB b most) : handP (leB 1 a ++ (leB 4 b ++ r)) = some ((a, b), r) := by
  unfold handP
  rw [bind_of (numP_le ha.1 (by rw [pow1]; have := ha.2; omega)), bind_of (smallP_le hb.1 hb.2)]
  rfl
theorem opP_le {a b c d e : Int} {s r : List Int} (ha : InB a 255) (hb : inR .u32 b) (hc : inR .u64 c) (hd : inR .u64 d) (he : inR .u64 e) (hs : (s.length : Int) ≤ 65535) :
    opP (leB 1 a ++ (leB 4 b ++ (leB 8 c ++ (leB 8 d ++ (leB 8 e ++ (leB 2 s.length ++ (s ++ r))))))) = some (⟨a, b, c, d, e, s⟩, r) := by
  unfold opP
  rw [bind_of (numP_le ha.1 (by rw [pow1]; have := ha.2; omega)), bind_of (numP_le hb.1 (by rw [pow4]; have := hb.2; omega)), bind_of (numP_le hc.1 (by rw [pow8]; have := hc.2; omega)),
    bind_of (numP_le hd.1 (by rw [pow8]; have := hd.2; omega)), bind_of (numP_le he.1 (by rw [pow8]; have := he.2; omega)), bind_of (numP_le (by omega) (by rw [pow2]; omega)), bind_of (takeP_app (by simp))]
  rfl
theorem drawP_le {s r : List Int} (hs : (s.length : Int) ≤ 255) : drawP (leB 1 s.length ++ (s ++ r)) = some (s, r) := by
  unfold drawP
  rw [bind_of (numP_le (by omega) (by rw [pow1]; omega)), takeP_app (by simp)]

theorem turnP_turnB {t : Turn} {r : List Int} (h : Right t) (hr : TR t) : turnP (turnB t ++ r) = some (t, r) := by
  obtain ⟨⟨k1, k2⟩, hs, hq, ht, ⟨h1, h2⟩, ho, hb, hd, e⟩ := h
  have r1 := hr.oat
  have r2 := hr.osize
  have r3 := hr.omult
  have r4 := hr.omany
  have hk : numP 1 (leB 1 t.kind ++ r) = some (t.kind, r) := numP_le (by omega) (by rw [pow1]; omega)
  rcases kinds t.kind with k | k | k | k | k | k | k
  · rw [bare1 k] at e
    generalize t.slot = s at *; generalize t.quota = q at *
    rw [k] at e
    subst e
    simp only [turnB, if_true, List.append_assoc]
    unfold turnP
    rw [bind_of (numP_le (by omega) (by rw [pow1]; omega)), if_neg (by omega), if_pos rfl, bind_of (numP_le hs.1 (by rw [pow1]; have := hs.2; omega)), bind_of (smallP_le hq.1 hq.2)]
    rfl
  · rw [bare2 k] at e
    generalize t.hslot = s at *; generalize t.hgen = q at *
    rw [k] at e
    subst e
    simp only [turnB, hasH, List.append_assoc, show ¬ ((2 : Int) = 1) by decide, show ¬ ((3 : Int) ≤ 2) by decide, show ¬ ((2 : Int) = 5) by decide, show ¬ ((2 : Int) = 6) by decide, if_false, if_true, true_or, List.nil_append]
    unfold turnP
    rw [bind_of (numP_le (by omega) (by rw [pow1]; omega)), if_neg (by omega), if_neg (by omega)]
    simp only [whenP, hasH, show ¬ ((3 : Int) ≤ 2) by decide, show ¬ ((2 : Int) = 5) by decide, show ¬ ((2 : Int) = 6) by decide, if_false, if_true, true_or]
    rw [bind_of (show ret (0 : Int) _ = some (0, _) from rfl), bind_of (handP_le h1 h2), bind_of (show ret (_ : OpP) _ = some (_, _) from rfl), bind_of (show ret (_ : List Int) _ = some (_, _) from rfl)]
    rfl
  · rw [bare3 k] at e
    generalize t.thread = th at *; generalize t.hslot = s at *; generalize t.hgen = q at *
    rw [k] at e
    subst e
    simp only [turnB, hasH, List.append_assoc, show ¬ ((3 : Int) = 1) by decide, show ((3 : Int) ≤ 3) by decide, show ¬ ((3 : Int) = 5) by decide, show ¬ ((3 : Int) = 6) by decide, if_false, if_true, true_or, or_true, List.nil_append]
    unfold turnP
    rw [bind_of (numP_le (by omega) (by rw [pow1]; omega)), if_neg (by omega), if_neg (by omega)]
    simp only [whenP, hasH, show ((3 : Int) ≤ 3) by decide, show ¬ ((3 : Int) = 5) by decide, show ¬ ((3 : Int) = 6) by decide, if_false, if_true, true_or, or_true]
    rw [bind_of (numP_le ht.1 (by rw [pow1]; have := ht.2; omega)), bind_of (handP_le h1 h2), bind_of (show ret (_ : OpP) _ = some (_, _) from rfl), bind_of (show ret (_ : List Int) _ = some (_, _) from rfl)]
    rfl
  · rw [bare4 k] at e
    generalize t.thread = th at *
    rw [k] at e
    subst e
    simp only [turnB, hasH, List.append_assoc, show ¬ ((4 : Int) = 1) by decide, show ¬ ((4 : Int) = 2) by decide, show ¬ ((4 : Int) = 3) by decide, show ((3 : Int) ≤ 4) by decide, show ¬ ((4 : Int) = 5) by decide, show ¬ ((4 : Int) = 6) by decide, if_false, if_true, or_self, List.nil_append]
    unfold turnP
    rw [bind_of (numP_le (by omega) (by rw [pow1]; omega)), if_neg (by omega), if_neg (by omega)]
    simp only [whenP, hasH, show ((3 : Int) ≤ 4) by decide, show ¬ ((4 : Int) = 2) by decide, show ¬ ((4 : Int) = 3) by decide, show ¬ ((4 : Int) = 5) by decide, show ¬ ((4 : Int) = 6) by decide, if_false, if_true, or_self]
    rw [bind_of (numP_le ht.1 (by rw [pow1]; have := ht.2; omega)), bind_of (show ret (_ : Int × Int) _ = some (_, _) from rfl), bind_of (show ret (_ : OpP) _ = some (_, _) from rfl), bind_of (show ret (_ : List Int) _ = some (_, _) from rfl)]
    rfl
  · rw [bare5 k] at e
    generalize t.thread = th at *; generalize t.hslot = s at *; generalize t.hgen = q at *; generalize t.okind = a at *; generalize t.oat = b at *; generalize t.osize = c at *; generalize t.omult = d at *; generalize t.omany = f at *; generalize t.obytes = g at *
    rw [k] at e
    subst e
    simp only [turnB, hasH, List.append_assoc, show ¬ ((5 : Int) = 1) by decide, show ¬ ((5 : Int) = 2) by decide, show ¬ ((5 : Int) = 3) by decide, show ((3 : Int) ≤ 5) by decide, show ¬ ((5 : Int) = 6) by decide, if_false, if_true, or_true, or_false, false_or, List.nil_append]
    unfold turnP
    rw [bind_of (numP_le (by omega) (by rw [pow1]; omega)), if_neg (by omega), if_neg (by omega)]
    simp only [whenP, hasH, show ((3 : Int) ≤ 5) by decide, show ¬ ((5 : Int) = 6) by decide, if_false, if_true, or_true]
    rw [bind_of (numP_le ht.1 (by rw [pow1]; have := ht.2; omega)), bind_of (handP_le h1 h2), bind_of (opP_le ho r1 r2 r3 r4 hb), bind_of (show ret (_ : List Int) _ = some (_, _) from rfl)]
    rfl
  · rw [bare6 k] at e
    generalize t.thread = th at *; generalize t.draws = s at *
    rw [k] at e
    subst e
    simp only [turnB, hasH, List.append_assoc, show ¬ ((6 : Int) = 1) by decide, show ¬ ((6 : Int) = 2) by decide, show ¬ ((6 : Int) = 3) by decide, show ((3 : Int) ≤ 6) by decide, show ¬ ((6 : Int) = 5) by decide, if_false, if_true, or_self, List.nil_append]
    unfold turnP
    rw [bind_of (numP_le (by omega) (by rw [pow1]; omega)), if_neg (by omega), if_neg (by omega)]
    simp only [whenP, hasH, show ((3 : Int) ≤ 6) by decide, show ¬ ((6 : Int) = 2) by decide, show ¬ ((6 : Int) = 3) by decide, show ¬ ((6 : Int) = 5) by decide, if_false, if_true, or_self]
    rw [bind_of (numP_le ht.1 (by rw [pow1]; have := ht.2; omega)), bind_of (show ret (_ : Int × Int) _ = some (_, _) from rfl), bind_of (show ret (_ : OpP) _ = some (_, _) from rfl), bind_of (drawP_le hd)]
    rfl
  · omega

theorem handP_inv {h : Int × Int} {xs r : List Int} (e : handP xs = some (h, r)) (hx : Byt8 xs) : xs = leB 1 h.1 ++ (leB 4 h.2 ++ r) ∧ InB h.1 255 ∧ InB h.2 most ∧ Byt8 r := by
  unfold handP at e
  obtain ⟨a, r1, e1, e⟩ := bind_inv e
  obtain ⟨b, r2, e2, e⟩ := bind_inv e
  obtain ⟨rfl, rfl⟩ := ret_inv e
  obtain ⟨rfl, h0, h1, hx⟩ := numP_inv e1 hx
  obtain ⟨rfl, h2, hx⟩ := smallP_inv e2 hx
  rw [pow1] at h1
  exact ⟨rfl, ⟨h0, by omega⟩, h2, hx⟩
theorem opP_inv {o : OpP} {xs r : List Int} (e : opP xs = some (o, r)) (hx : Byt8 xs) :
    xs = leB 1 o.okind ++ (leB 4 o.oat ++ (leB 8 o.osize ++ (leB 8 o.omult ++ (leB 8 o.omany ++ (leB 2 o.obytes.length ++ (o.obytes ++ r)))))) ∧ InB o.okind 255 ∧ inR .u32 o.oat ∧ inR .u64 o.osize ∧ inR .u64 o.omult ∧ inR .u64 o.omany ∧ (o.obytes.length : Int) ≤ 65535 ∧ Byt8 r := by
  unfold opP at e
  obtain ⟨a, r1, e1, e⟩ := bind_inv e
  obtain ⟨b, r2, e2, e⟩ := bind_inv e
  obtain ⟨c, r3, e3, e⟩ := bind_inv e
  obtain ⟨d, r4, e4, e⟩ := bind_inv e
  obtain ⟨f, r5, e5, e⟩ := bind_inv e
  obtain ⟨n, r6, e6, e⟩ := bind_inv e
  obtain ⟨s, r7, e7, e⟩ := bind_inv e
  obtain ⟨rfl, rfl⟩ := ret_inv e
  obtain ⟨rfl, a0, a1, hx⟩ := numP_inv e1 hx
  obtain ⟨rfl, b0, b1, hx⟩ := numP_inv e2 hx
  obtain ⟨rfl, c0, c1, hx⟩ := numP_inv e3 hx
  obtain ⟨rfl, d0, d1, hx⟩ := numP_inv e4 hx
  obtain ⟨rfl, f0, f1, hx⟩ := numP_inv e5 hx
  obtain ⟨rfl, n0, n1, hx⟩ := numP_inv e6 hx
  obtain ⟨rfl, hl⟩ := takeP_inv e7
  rw [pow1] at a1; rw [pow4] at b1; rw [pow8] at c1 d1 f1; rw [pow2] at n1
  have hl' : (s.length : Int) = n := by omega
  exact ⟨by rw [← hl'], ⟨a0, by show a ≤ _; omega⟩, ⟨b0, by show b ≤ _; omega⟩, ⟨c0, by show c ≤ _; omega⟩, ⟨d0, by show d ≤ _; omega⟩, ⟨f0, by show f ≤ _; omega⟩, by show (s.length : Int) ≤ _; omega, (byt_app.1 hx).2⟩
theorem drawP_inv {s xs r : List Int} (e : drawP xs = some (s, r)) (hx : Byt8 xs) : xs = leB 1 s.length ++ (s ++ r) ∧ (s.length : Int) ≤ 255 ∧ Byt8 r := by
  unfold drawP at e
  obtain ⟨n, r6, e6, e7⟩ := bind_inv e
  obtain ⟨rfl, n0, n1, hx⟩ := numP_inv e6 hx
  obtain ⟨rfl, hl⟩ := takeP_inv e7
  rw [pow1] at n1
  have hl' : (s.length : Int) = n := by omega
  exact ⟨by rw [← hl'], by omega, (byt_app.1 hx).2⟩

theorem in0 : InB 0 255 := ⟨by decide, by decide⟩
theorem inM : InB 0 most := ⟨by decide, by decide⟩
theorem z64 : inR .u64 0 := ⟨by decide, by decide⟩
theorem z32 : inR .u32 0 := ⟨by decide, by decide⟩
theorem i64of {n b : Int} (h : InB n b) (hb : b ≤ most) : inR .i64 n := ⟨by have := h.1; omega, by have := h.2; unfold most at hb; omega⟩
theorem byt_nil : Byt8 [] := fun _ h => by cases h

/-- A turn that may be, as it is read. -/
structure Fine (t : Turn) : Prop where
  right : Right t
  tr : TR t
  bb : Byt8 t.obytes
  bd : Byt8 t.draws
theorem Fine.of {t : Turn} (h : Right t) (hr : inR .u32 t.oat ∧ inR .u64 t.osize ∧ inR .u64 t.omult ∧ inR .u64 t.omany) (bb : Byt8 t.obytes) (bd : Byt8 t.draws) : Fine t := by
  obtain ⟨⟨k1, k2⟩, hs, hq, ht, ⟨h1, h2⟩, ho, hb, hd, e⟩ := id h
  exact ⟨h, ⟨⟨by omega, by omega⟩, i64of hs (by decide), i64of hq (by decide), i64of ht (by decide), i64of h1 (by decide), i64of h2 (by decide), i64of ho (by decide), hr.1, hr.2.1, hr.2.2.1, hr.2.2.2⟩, bb, bd⟩

theorem turnP_inv {t : Turn} {xs r : List Int} (e : turnP xs = some (t, r)) (hx : Byt8 xs) : xs = turnB t ++ r ∧ Fine t ∧ Byt8 r := by
  unfold turnP at e
  obtain ⟨k, r1, e1, e'⟩ := bind_inv e
  clear e
  have e := e'
  clear e'
  obtain ⟨rfl, k0, k1, hx1⟩ := numP_inv e1 hx
  have zr : inR .u32 0 ∧ inR .u64 0 ∧ inR .u64 0 ∧ inR .u64 0 := ⟨z32, z64, z64, z64⟩
  have l0 : (([] : List Int).length : Int) ≤ 65535 ∧ (([] : List Int).length : Int) ≤ 255 := ⟨by decide, by decide⟩
  split at e
  · cases e
  · rename_i hk
    split at e
    · rename_i hk1
      subst hk1
      obtain ⟨s, r2, e2, e⟩ := bind_inv e
      obtain ⟨q, r3, e3, e⟩ := bind_inv e
      obtain ⟨rfl, rfl⟩ := ret_inv e
      obtain ⟨rfl, s0, s1, hx2⟩ := numP_inv e2 hx1
      obtain ⟨rfl, hq, hx3⟩ := smallP_inv e3 hx2
      rw [pow1] at s1
      exact ⟨by simp [turnB], .of ⟨⟨by simp, by simp⟩, ⟨s0, by show s ≤ 255; omega⟩, hq, in0, ⟨in0, inM⟩, in0, l0.1, l0.2, (by rw [bare1 (by rfl)])⟩ zr byt_nil byt_nil, hx3⟩
    · rename_i hk1
      obtain ⟨th, r2, e2, e⟩ := bind_inv e
      obtain ⟨h, r3, e3, e⟩ := bind_inv e
      obtain ⟨o, r4, e4, e⟩ := bind_inv e
      obtain ⟨d, r5, e5, e⟩ := bind_inv e
      obtain ⟨rfl, rfl⟩ := ret_inv e
      rcases kinds k with k | k | k | k | k | k | k
      · exact absurd k hk1
      · subst k
        simp only [whenP, hasH, show ¬ ((3 : Int) ≤ 2) by decide, show ¬ ((2 : Int) = 5) by decide, show ¬ ((2 : Int) = 6) by decide, if_false, if_true, true_or] at e2 e3 e4 e5
        obtain ⟨rfl, rfl⟩ := ret_inv e2
        obtain ⟨rfl, h1, h2, hx2⟩ := handP_inv e3 hx1
        obtain ⟨rfl, rfl⟩ := ret_inv e4
        obtain ⟨rfl, rfl⟩ := ret_inv e5
        exact ⟨by simp [turnB, hasH], .of ⟨⟨by simp, by simp⟩, in0, inM, in0, ⟨h1, h2⟩, in0, l0.1, l0.2, (by rw [bare2 (by rfl)])⟩ zr byt_nil byt_nil, hx2⟩
      · subst k
        simp only [whenP, hasH, show ((3 : Int) ≤ 3) by decide, show ¬ ((3 : Int) = 5) by decide, show ¬ ((3 : Int) = 6) by decide, if_false, if_true, or_true, true_or] at e2 e3 e4 e5
        obtain ⟨rfl, t0, t1, hx2⟩ := numP_inv e2 hx1
        obtain ⟨rfl, h1, h2, hx3⟩ := handP_inv e3 hx2
        obtain ⟨rfl, rfl⟩ := ret_inv e4
        obtain ⟨rfl, rfl⟩ := ret_inv e5
        rw [pow1] at t1
        exact ⟨by simp [turnB, hasH], .of ⟨⟨by simp, by simp⟩, in0, inM, ⟨t0, by show th ≤ 255; omega⟩, ⟨h1, h2⟩, in0, l0.1, l0.2, (by rw [bare3 (by rfl)])⟩ zr byt_nil byt_nil, hx3⟩
      · subst k
        simp only [whenP, hasH, show ((3 : Int) ≤ 4) by decide, show ¬ ((4 : Int) = 2) by decide, show ¬ ((4 : Int) = 3) by decide, show ¬ ((4 : Int) = 5) by decide, show ¬ ((4 : Int) = 6) by decide, if_false, if_true, or_self] at e2 e3 e4 e5
        obtain ⟨rfl, t0, t1, hx2⟩ := numP_inv e2 hx1
        obtain ⟨rfl, rfl⟩ := ret_inv e3
        obtain ⟨rfl, rfl⟩ := ret_inv e4
        obtain ⟨rfl, rfl⟩ := ret_inv e5
        rw [pow1] at t1
        exact ⟨by simp [turnB, hasH], .of ⟨⟨by simp, by simp⟩, in0, inM, ⟨t0, by show th ≤ 255; omega⟩, ⟨in0, inM⟩, in0, l0.1, l0.2, (by rw [bare4 (by rfl)])⟩ zr byt_nil byt_nil, hx2⟩
      · subst k
        simp only [whenP, hasH, show ((3 : Int) ≤ 5) by decide, show ¬ ((5 : Int) = 6) by decide, if_false, if_true, or_true] at e2 e3 e4 e5
        obtain ⟨rfl, t0, t1, hx2⟩ := numP_inv e2 hx1
        obtain ⟨rfl, h1, h2, hx3⟩ := handP_inv e3 hx2
        obtain ⟨rfl, o1, o2, o3, o4, o5, o6, hx'⟩ := opP_inv e4 hx3
        obtain ⟨rfl, rfl⟩ := ret_inv e5
        rw [pow1] at t1
        have ob : Byt8 o.obytes := by simp only [byt_app] at hx3; exact hx3.2.2.2.2.2.2.1
        exact ⟨by simp [turnB, hasH], .of ⟨⟨by simp, by simp⟩, in0, inM, ⟨t0, by show th ≤ 255; omega⟩, ⟨h1, h2⟩, o1, o6, l0.2, (by rw [bare5 (by rfl)])⟩ ⟨o2, o3, o4, o5⟩ ob byt_nil, hx'⟩
      · subst k
        simp only [whenP, hasH, show ((3 : Int) ≤ 6) by decide, show ¬ ((6 : Int) = 2) by decide, show ¬ ((6 : Int) = 3) by decide, show ¬ ((6 : Int) = 5) by decide, if_false, if_true, or_self] at e2 e3 e4 e5
        obtain ⟨rfl, t0, t1, hx2⟩ := numP_inv e2 hx1
        obtain ⟨rfl, rfl⟩ := ret_inv e3
        obtain ⟨rfl, rfl⟩ := ret_inv e4
        obtain ⟨rfl, d1, hx'⟩ := drawP_inv e5 hx2
        rw [pow1] at t1
        have od : Byt8 d := by simp only [byt_app] at hx2; exact hx2.2.1
        exact ⟨by simp [turnB, hasH], .of ⟨⟨by simp, by simp⟩, in0, inM, ⟨t0, by show th ≤ 255; omega⟩, ⟨in0, inM⟩, in0, l0.1, d1, (by rw [bare6 (by rfl)])⟩ zr byt_nil od, hx'⟩
      · exact absurd k hk

theorem turnB_pos (t : Turn) : turnB t ≠ [] := by simp [turnB, leB]
theorem turnsB_cons (t : Turn) (ts : List Turn) : turnsB (t :: ts) = turnB t ++ turnsB ts := by simp [turnsB]
theorem turnsB_nil : turnsB [] = [] := rfl
theorem turnsB_snoc (t : Turn) (ts : List Turn) : turnsB (ts ++ [t]) = turnsB ts ++ turnB t := by simp [turnsB]
theorem turnsP_le : ∀ (ts : List Turn) (f : Nat), (turnsB ts).length < f → (∀ t ∈ ts, Right t ∧ TR t) → turnsP f (turnsB ts) = some ts
  | [], f + 1, _, _ => by simp [turnsP, turnsB_nil]
  | t :: ts, f + 1, h, hr => by
    have h1 := hr t (List.mem_cons_self ..)
    have h2 : 0 < (turnB t).length := List.length_pos_iff.2 (turnB_pos t)
    rw [turnsB_cons] at h ⊢
    rw [List.length_append] at h
    have h3 : turnB t ++ turnsB ts ≠ [] := by simp [turnB_pos]
    rw [turnsP, if_neg h3, turnP_turnB h1.1 h1.2, Option.bind_some]
    show Option.map _ (turnsP f (turnsB ts)) = _
    rw [turnsP_le ts f (by omega) (fun u hu => hr u (List.mem_cons_of_mem _ hu))]
    rfl
  | ts, 0, h, _ => by omega
theorem turnsP_inv : ∀ (f : Nat) (xs : List Int) (ts : List Turn), turnsP f xs = some ts → Byt8 xs → xs = turnsB ts ∧ ∀ t ∈ ts, Fine t
  | 0, _, _, h, _ => by simp [turnsP] at h
  | f + 1, xs, ts, h, hx => by
    rw [turnsP] at h
    split at h
    · simp only [Option.some.injEq] at h
      subst h
      exact ⟨by rename_i e; rw [e]; rfl, fun _ h => by cases h⟩
    · cases h1 : turnP xs with
      | none => rw [h1] at h; cases h
      | some p =>
        obtain ⟨t, r⟩ := p
        rw [h1, Option.bind_some] at h
        simp only at h
        cases h2 : turnsP f r with
        | none => rw [h2] at h; cases h
        | some us =>
          rw [h2, Option.map_some, Option.some.injEq] at h
          subst h
          obtain ⟨rfl, ht, hr⟩ := turnP_inv h1 hx
          obtain ⟨rfl, hu⟩ := turnsP_inv f r us h2 hr
          refine ⟨(turnsB_cons t us).symm, fun u hu' => ?_⟩
          rcases List.mem_cons.1 hu' with rfl | h
          · exact ht
          · exact hu u h

theorem check_eq {l : Life} : check l = 0 ↔ (FrOk l ∧ ∀ t ∈ l.turns, Right t) ∧ (encodeB l).length ≤ 65536 := by
  unfold check
  by_cases h : FrOk l ∧ ∀ t ∈ l.turns, Right t
  · rw [if_neg (by simpa using h)]
    by_cases h2 : (encodeB l).length > 65536
    · rw [if_pos h2]; exact ⟨fun e => absurd e (by decide), fun e => absurd e.2 (by omega)⟩
    · rw [if_neg h2]; exact ⟨fun _ => ⟨h, by omega⟩, fun _ => rfl⟩
  · rw [if_pos h]; simp [h]

theorem lifeP_encodeB {l : Life} (h : FrOk l ∧ ∀ t ∈ l.turns, Right t) (hr : LR l) (ht : ∀ t ∈ l.turns, TR t) : lifeP (encodeB l) = some l := by
  unfold lifeP encodeB
  obtain ⟨⟨f1, f2, f3⟩, hR⟩ := h
  have hk := hr.key
  simp only [List.append_assoc]
  rw [bind_of (smallP_le f1.1 f1.2), bind_of (numP_le hk.1 (by rw [pow8]; have := hk.2; omega)), bind_of (smallP_le f2.1 f2.2), bind_of (smallP_le f3.1 f3.2)]
  simp only [ret, Option.bind_some]
  rw [turnsP_le _ _ (by omega) (fun t h => ⟨hR t h, ht t h⟩)]
  rfl
theorem lifeP_inv {l : Life} {xs : List Int} (h : lifeP xs = some l) (hx : Byt8 xs) : encodeB l = xs ∧ FrOk l ∧ LR l ∧ ∀ t ∈ l.turns, Fine t := by
  unfold lifeP at h
  generalize hp : bind smallP (fun a => bind (numP 8) fun b => bind smallP fun c => bind smallP fun d => ret (a, b, c, d)) xs = p at h
  cases p with
  | none => cases h
  | some q =>
    obtain ⟨⟨a, b, c, d⟩, r⟩ := q
    rw [Option.bind_some] at h
    obtain ⟨a', r1, e1, hp⟩ := bind_inv hp
    obtain ⟨b', r2, e2, hp⟩ := bind_inv hp
    obtain ⟨c', r3, e3, hp⟩ := bind_inv hp
    obtain ⟨d', r4, e4, hp⟩ := bind_inv hp
    obtain ⟨e, rfl⟩ := ret_inv hp
    simp only [Prod.mk.injEq] at e
    obtain ⟨rfl, rfl, rfl, rfl⟩ := e
    obtain ⟨rfl, ha, hx⟩ := smallP_inv e1 hx
    obtain ⟨rfl, b0, b1, hx⟩ := numP_inv e2 hx
    obtain ⟨rfl, hc, hx⟩ := smallP_inv e3 hx
    obtain ⟨rfl, hd, hx⟩ := smallP_inv e4 hx
    simp only at h
    cases h2 : turnsP (r.length + 1) r with
    | none => rw [h2] at h; cases h
    | some us =>
      rw [h2, Option.map_some, Option.some.injEq] at h
      subst h
      obtain ⟨rfl, hf⟩ := turnsP_inv _ _ _ h2 hx
      rw [pow8] at b1
      exact ⟨by simp [encodeB], ⟨ha, hc, hd⟩, ⟨i64of ha (by decide), ⟨b0, by show b ≤ _; omega⟩, i64of hc (by decide), i64of hd (by decide)⟩, hf⟩

/-- What is encoded is read as it was. -/
theorem decode_encode {l : Life} (h : check l = 0) (hr : LR l) (ht : ∀ t ∈ l.turns, TR t) : decode (encodeB l) = (l, 0) := by
  rw [check_eq] at h
  unfold decode
  rw [if_neg (by omega), lifeP_encodeB h.1 hr ht]
/-- What is read is laid as it was. -/
theorem encode_decode {l : Life} {xs : List Int} (h : decode xs = (l, 0)) (hx : Byt8 xs) : encodeB l = xs ∧ check l = 0 ∧ LR l ∧ ∀ t ∈ l.turns, Fine t := by
  unfold decode at h
  split at h
  · simp at h
  · cases h1 : lifeP xs with
    | none => rw [h1] at h; simp at h
    | some m =>
      rw [h1] at h
      simp only [Prod.mk.injEq, and_true] at h
      subst h
      obtain ⟨e, h2, h3, h4⟩ := lifeP_inv h1 hx
      exact ⟨e, check_eq.2 ⟨⟨h2, fun t ht => (h4 t ht).right⟩, by rw [e]; omega⟩, h3, h4⟩
theorem decode_no {l : Life} {xs : List Int} {no : Int} (h : decode xs = (l, no)) (hn : no ≠ 0) : l = Life.zero ∧ (no = 3 ∨ no = 380) := by
  unfold decode at h
  split at h
  · simp only [Prod.mk.injEq] at h; exact ⟨h.1.symm, .inl h.2.symm⟩
  · cases h1 : lifeP xs with
    | none => rw [h1] at h; simp only [Prod.mk.injEq] at h; exact ⟨h.1.symm, .inr h.2.symm⟩
    | some m => rw [h1] at h; simp only [Prod.mk.injEq] at h; exact absurd h.2.symm hn
theorem leB_nonneg (k : Nat) (n : Int) : Byt8 (leB k n) := leB_byt k n

/-! reading that goes on behind what is bad -/
def RdP {α : Type} (p : Pa α) (xs : List Int) (b : Bool) (a : α) (xs' : List Int) (b' : Bool) : Prop :=
  (b' = true → b = true ∨ p xs = none) ∧ (b' = false → b = false ∧ p xs = some (a, xs'))
theorem RdP.bind {α β : Type} {p : Pa α} {f : α → Pa β} {xs xs1 xs2 : List Int} {b b1 b2 : Bool} {a : α} {c : β} (h1 : RdP p xs b a xs1 b1) (h2 : RdP (f a) xs1 b1 c xs2 b2) : RdP (Sc.bind p f) xs b c xs2 b2 := by
  refine ⟨fun e => ?_, fun e => ?_⟩
  · cases hb1 : b1 with
    | true => exact (h1.1 hb1).imp id bind_no
    | false =>
      obtain ⟨hb, hp⟩ := h1.2 hb1
      rcases h2.1 e with h | h
      · rw [hb1] at h; cases h
      · exact .inr (by rw [bind_of hp, h])
  · obtain ⟨hb1, hf⟩ := h2.2 e
    obtain ⟨hb, hp⟩ := h1.2 hb1
    exact ⟨hb, by rw [bind_of hp, hf]⟩
theorem RdP.ret {α : Type} {a : α} {xs : List Int} {b : Bool} : RdP (Sc.ret a) xs b a xs b := ⟨.inl, fun h => ⟨h, rfl⟩⟩
theorem RdP.bad {α : Type} {p : Pa α} {xs xs' : List Int} {b : Bool} {a : α} (h : p xs = none) : RdP p xs b a xs' true := ⟨fun _ => .inr h, fun e => by cases e⟩
theorem RdP.isBad {α : Type} {p : Pa α} {xs xs' : List Int} {a : α} : RdP p xs true a xs' true := ⟨fun _ => .inl rfl, fun e => by cases e⟩
theorem RdP.good {α : Type} {p : Pa α} {xs xs' : List Int} {a : α} (h : p xs = some (a, xs')) : RdP p xs false a xs' false := ⟨fun e => (by cases e), fun _ => ⟨rfl, h⟩⟩
/-- One more byte, from above. -/
theorem or_step {x : Int} {ys : List Int} (hx : Byt8 (x :: ys)) (h : ys.length ≤ 7) : bitsV .or .u64 (shlV .u64 (leN ys) 8) x = leN (x :: ys) := by
  have h1 := hx x (List.mem_cons_self ..)
  have hy : Byt8 ys := fun y hy => hx y (List.mem_cons_of_mem _ hy)
  have h2 := leN_nonneg ys hy
  have h3 := leN_lt ys hy
  have h4 : (256 : Int) ^ ys.length ≤ 256 ^ 7 := by
    have h9 : (256 : Nat) ^ ys.length ≤ 256 ^ 7 := Nat.pow_le_pow_right (by decide) h
    have := Int.ofNat_le.2 h9
    simpa using this
  have h5 : (256 : Int) ^ 7 = 72057594037927936 := rfl
  have e1 : shlV .u64 (leN ys) 8 = leN ys * 256 := by
    unfold shlV
    have : (2 : Int) ^ min (8 : Int).toNat IntKind.u64.bits = 256 := rfl
    rw [this, wrap_in (k := .u64) ⟨by omega, by omega⟩]
  obtain ⟨a, ha⟩ := Int.eq_ofNat_of_zero_le h2
  obtain ⟨b, hb⟩ := Int.eq_ofNat_of_zero_le h1.1
  have h6 : a < 2 ^ 56 := by rw [show (2 : Nat) ^ 56 = 72057594037927936 from rfl]; omega
  rw [e1, leN, ha, hb, or_bytes a b h6 (by omega)]
  omega
end Go.Pw.Sc

namespace Go.Pw.Sc

theorem TS.open {L : Chunk} {v : Value} {ts : List Turn} (h : TS L v ts) (hn : ts.length ≠ 0) :
    ∃ b k cap l e fr, v = .slice (some ⟨b, k, none⟩) ts.length cap ∧ InC L b (.cells (List.toArray l) e fr) ∧ ts.length ≤ cap ∧
      ∀ i (hi : i < ts.length), ∃ vb vd, CutL l (k + i * 13) 13 (tcells ts[i] vb vd) ∧ BS L vb ts[i].obytes ∧ BS L vd ts[i].draws ∧ TR ts[i] := by
  obtain ⟨xs, hrd, hta⟩ := h.rd
  obtain ⟨b, k, cap, l, e, fr, h1, h2, h3, h4⟩ := hrd.open hn
  refine ⟨b, k, cap, l, e, fr, h1, h2, h3, fun i hi => ?_⟩
  obtain ⟨vb, vd, e1, h5, h6, h7⟩ := hta.get i hi
  exact ⟨vb, vd, e1 ▸ h4 i hi, h5, h6, h7⟩

theorem right_len {t : Turn} (h : Right t) : ((turnB t).length : Int) ≤ 66000 := by
  obtain ⟨_, _, _, _, _, _, hb, hd, _⟩ := h
  unfold turnB
  simp only [List.length_append, leB_length]
  repeat' split
  all_goals simp only [List.length_append, leB_length, List.length_nil]
  all_goals omega

/-- A sum that is cut at 70000. -/
def Cut (n S : Int) : Prop := 0 ≤ n ∧ n ≤ 200000 ∧ (S ≤ 70000 → n = S) ∧ (70000 < S → 70000 ≤ n)
theorem Cut.step {n S k : Int} (h : Cut n S) (h0 : 0 ≤ k) (h1 : k ≤ 66000) : Cut (min n 70000 + k) (S + k) := by unfold Cut at *; omega
theorem encodeB_len (l : Life) : ((encodeB l).length : Int) = 20 + (turnsB l.turns).length := by
  simp only [encodeB, List.length_append, leB_length]; omega
theorem turnsB_take_succ {ts : List Turn} {i : Nat} (hi : i < ts.length) : turnsB (ts.take (i + 1)) = turnsB (ts.take i) ++ turnB ts[i] := by
  rw [List.take_succ_eq_append_getElem hi, turnsB_snoc]
theorem all_take_succ {ts : List Turn} {i : Nat} (hi : i < ts.length) {p : Turn → Prop} (h : ∀ t ∈ ts.take i, p t) (h1 : p ts[i]) : ∀ t ∈ ts.take (i + 1), p t := by
  rw [List.take_succ_eq_append_getElem hi]
  intro t ht
  rcases List.mem_append.1 ht with ht | ht
  · exact h t ht
  · rw [List.mem_singleton.1 ht]; exact h1
end Go.Pw.Sc

namespace Go.Pw.Sc

theorem bv_take (xs : List Int) (n : Nat) : (bv xs).take n = bv (xs.take n) := by simp [bv, List.map_take]
theorem bv_drop (xs : List Int) (n : Nat) : (bv xs).drop n = bv (xs.drop n) := by simp [bv, List.map_drop]
theorem BS.hi {L : Chunk} {v : Value} {xs : List Int} (h : BS L v xs) {n : Nat} (hn : n ≤ xs.length) : BS L (slV v 0 n 1) (xs.take n) := by
  refine ⟨?_, fun x hx => h.byt x (List.mem_of_mem_take hx), ?_⟩
  · have := h.rd.sl (lo := 0) (hi := n) (by omega) hn
    rw [Nat.zero_mul, List.drop_zero, Nat.sub_zero, Nat.mul_one, bv_take] at this
    rwa [List.length_take, Nat.min_eq_left hn]
  · have := h.len; rw [List.length_take]; omega
theorem BS.lo {L : Chunk} {v : Value} {xs : List Int} (h : BS L v xs) {n : Nat} (hn : n ≤ xs.length) : BS L (slV v n xs.length 1) (xs.drop n) := by
  refine ⟨?_, fun x hx => h.byt x (List.mem_of_mem_drop hx), ?_⟩
  · have := h.rd.sl (lo := n) (hi := xs.length) hn (Nat.le_refl _)
    rw [Nat.mul_one, Nat.mul_one, bv_drop, bv_take, List.take_of_length_le (by simp)] at this
    rwa [List.length_drop]
  · have := h.len; rw [List.length_drop]; omega
theorem Row.bs {e : TypeId} {N : Chunk} {v : Value} {k : Nat} {ys : List Int} (h : Row e 1 N v k (bv ys)) (hb : Byt8 ys) (hl : (ys.length : Int) ≤ 9223372036854775807) : BS N v ys := by
  have e1 := h.1
  rw [bv_length, Nat.mul_one] at e1
  exact ⟨by rw [e1]; exact h.rd, hb, hl⟩
theorem byt_take {xs : List Int} (h : Byt8 xs) (n : Nat) : Byt8 (xs.take n) := fun x hx => h x (List.mem_of_mem_take hx)

theorem RdP.num {w : Nat} {xs a xs' : List Int} {b : Bool} (h : RdP (takeP w) xs b a xs' false) : RdP (numP w) xs b (leN a) xs' false := by
  obtain ⟨hb, hp⟩ := h.2 rfl
  exact ⟨fun e => (by cases e), fun _ => ⟨hb, by simp [numP, hp]⟩⟩
theorem RdP.numBad {w : Nat} {xs a xs' xs2 : List Int} {b : Bool} {n : Int} (h : RdP (takeP w) xs b a xs' true) : RdP (numP w) xs b n xs2 true :=
  ⟨fun _ => (h.1 rfl).imp id fun h => by simp [numP, h], fun e => (by cases e)⟩
theorem RdP.small {xs xs' : List Int} {b b' : Bool} {n : Int} (h : RdP (numP 4) xs b n xs' b') (hn : n ≤ most) : RdP smallP xs b n xs' b' :=
  ⟨fun e => (h.1 e).imp id fun h => by simp [smallP, h], fun e => ⟨(h.2 e).1, by simp [smallP, (h.2 e).2, hn]⟩⟩
theorem RdP.smallBad {xs xs' xs2 : List Int} {b b' : Bool} {n m : Int} (h : RdP (numP 4) xs b n xs' b') (hn : ¬ n ≤ most) : RdP smallP xs b m xs2 true := by
  refine ⟨fun _ => ?_, fun e => (by cases e)⟩
  cases b' with
  | true => exact (h.1 rfl).imp id fun h => by simp [smallP, h]
  | false => exact .inr (by simp [smallP, (h.2 rfl).2, hn])
theorem RdP.to {α : Type} {p q : Pa α} {xs xs' : List Int} {b b' : Bool} {a : α} (h : RdP p xs b a xs' b') (e : p = q) : RdP q xs b a xs' b' := e ▸ h
theorem RdP.whenT {α : Type} {c : Prop} [Decidable c] {p : Pa α} {d a : α} {xs xs' : List Int} {b b' : Bool} (hc : c) (h : RdP p xs b a xs' b') : RdP (whenP c p d) xs b a xs' b' := h.to (by rw [whenP, if_pos hc])
theorem RdP.whenF {α : Type} {c : Prop} [Decidable c] {p : Pa α} {d : α} {xs : List Int} {b : Bool} (hc : ¬ c) : RdP (whenP c p d) xs b d xs b := RdP.ret.to (by rw [whenP, if_neg hc])
section rd
variable {xs xs1 xs2 xs3 xs4 xs5 xs6 xs7 : List Int} {b b1 b2 b3 b4 b5 b6 b7 : Bool}
theorem rd_bad {k : Int} {t : Turn} (h : RdP (numP 1) xs b k xs1 b1) (hk : k < 1 ∨ 6 < k) : RdP turnP xs b t xs2 true := by
  unfold turnP
  exact h.bind (RdP.bad (by rw [if_pos hk]))
theorem rd_one {k s q : Int} (h : RdP (numP 1) xs b k xs1 b1) (hk : k = 1) (h2 : RdP (numP 1) xs1 b1 s xs2 b2) (h3 : RdP smallP xs2 b2 q xs3 b3) : RdP turnP xs b ⟨k, s, q, 0, 0, 0, 0, 0, 0, 0, 0, [], []⟩ xs3 b3 := by
  unfold turnP
  refine h.bind ?_
  rw [if_neg (by omega), if_pos hk]
  exact h2.bind (h3.bind RdP.ret)
theorem rd_hand {a g : Int} (h1 : RdP (numP 1) xs b a xs1 b1) (h2 : RdP smallP xs1 b1 g xs2 b2) : RdP handP xs b (a, g) xs2 b2 := by
  unfold handP; exact h1.bind (h2.bind RdP.ret)
theorem rd_op {p q r s t n : Int} {u : List Int} (h1 : RdP (numP 1) xs b p xs1 b1) (h2 : RdP (numP 4) xs1 b1 q xs2 b2) (h3 : RdP (numP 8) xs2 b2 r xs3 b3) (h4 : RdP (numP 8) xs3 b3 s xs4 b4) (h5 : RdP (numP 8) xs4 b4 t xs5 b5)
    (h6 : RdP (numP 2) xs5 b5 n xs6 b6) (h7 : RdP (takeP n.toNat) xs6 b6 u xs7 b7) : RdP opP xs b ⟨p, q, r, s, t, u⟩ xs7 b7 := by
  unfold opP; exact h1.bind (h2.bind (h3.bind (h4.bind (h5.bind (h6.bind (h7.bind RdP.ret))))))
theorem rd_draw {n : Int} {u : List Int} (h1 : RdP (numP 1) xs b n xs1 b1) (h2 : RdP (takeP n.toNat) xs1 b1 u xs2 b2) : RdP drawP xs b u xs2 b2 := by
  unfold drawP; exact h1.bind h2
theorem rd_turn {k th : Int} {h' : Int × Int} {o : OpP} {d : List Int} (h : RdP (numP 1) xs b k xs1 b1) (hk : ¬ (k < 1 ∨ 6 < k)) (hk1 : ¬ k = 1) (ht : RdP (whenP (3 ≤ k) (numP 1) 0) xs1 b1 th xs2 b2)
    (hh : RdP (whenP (hasH k) handP (0, 0)) xs2 b2 h' xs3 b3) (ho : RdP (whenP (k = 5) opP ⟨0, 0, 0, 0, 0, []⟩) xs3 b3 o xs4 b4) (hd : RdP (whenP (k = 6) drawP []) xs4 b4 d xs5 b5) :
    RdP turnP xs b { kind := k, slot := 0, quota := 0, thread := th, hslot := h'.1, hgen := h'.2, okind := o.okind, oat := o.oat, osize := o.osize, omult := o.omult, omany := o.omany, obytes := o.obytes, draws := d } xs5 b5 := by
  unfold turnP
  refine h.bind ?_
  rw [if_neg hk, if_neg hk1]
  exact ht.bind (hh.bind (ho.bind (hd.bind RdP.ret)))
end rd
theorem TR.lit {k s q th hs hg ok at_ sz mu ma : Int} {b d : List Int} (h1 : inR .i64 k) (h2 : inR .i64 s) (h3 : inR .i64 q) (h4 : inR .i64 th) (h5 : inR .i64 hs) (h6 : inR .i64 hg) (h7 : inR .i64 ok) (h8 : inR .u32 at_) (h9 : inR .u64 sz) (h10 : inR .u64 mu) (h11 : inR .u64 ma) :
    TR ⟨k, s, q, th, hs, hg, ok, at_, sz, mu, ma, b, d⟩ := ⟨h1, h2, h3, h4, h5, h6, h7, h8, h9, h10, h11⟩
end Go.Pw.Sc

namespace Go.Pw.Sc

def LeP {α : Type} (p : Pa α) : Prop := ∀ xs a r, p xs = some (a, r) → r.length ≤ xs.length
theorem leP_take (n : Nat) : LeP (takeP n) := fun xs a r h => by
  obtain ⟨rfl, _⟩ := takeP_inv h
  simp
theorem leP_num (w : Nat) : LeP (numP w) := fun xs a r h => by
  unfold numP at h
  cases h1 : takeP w xs with
  | none => rw [h1] at h; cases h
  | some q =>
    rw [h1] at h
    simp only [Option.map_some, Option.some.injEq, Prod.mk.injEq] at h
    rw [← h.2]
    exact leP_take w xs q.1 q.2 h1
theorem num1_lt {xs r : List Int} {a : Int} (h : numP 1 xs = some (a, r)) : r.length < xs.length := by
  unfold numP at h
  cases h1 : takeP 1 xs with
  | none => rw [h1] at h; cases h
  | some q =>
    rw [h1] at h
    simp only [Option.map_some, Option.some.injEq, Prod.mk.injEq] at h
    obtain ⟨e, hl⟩ := takeP_inv (a := q.1) (r := q.2) h1
    rw [← h.2, e, List.length_append]
    omega
theorem leP_small : LeP smallP := fun xs a r h => by
  unfold smallP at h
  cases h1 : numP 4 xs with
  | none => rw [h1] at h; cases h
  | some q =>
    rw [h1, Option.bind_some] at h
    simp only at h
    split at h
    · simp only [Option.some.injEq, Prod.mk.injEq] at h
      rw [← h.2]
      exact leP_num 4 xs q.1 q.2 h1
    · cases h
theorem leP_ret {α : Type} (a : α) : LeP (ret a) := fun xs b r h => by obtain ⟨_, rfl⟩ := ret_inv h; exact Nat.le_refl _
theorem leP_bind {α β : Type} {p : Pa α} {f : α → Pa β} (hp : LeP p) (hf : ∀ a, LeP (f a)) : LeP (bind p f) := fun xs b r h => by
  obtain ⟨a, r1, h1, h2⟩ := bind_inv h
  have := hp _ _ _ h1
  have := hf a _ _ _ h2
  omega
theorem leP_when {α : Type} {c : Prop} [Decidable c] {p : Pa α} {d : α} (hp : LeP p) : LeP (whenP c p d) := by
  unfold whenP
  split
  · exact hp
  · exact leP_ret d
theorem leP_hand : LeP handP := leP_bind (leP_num 1) fun _ => leP_bind leP_small fun _ => leP_ret _
theorem leP_op : LeP opP := leP_bind (leP_num 1) fun _ => leP_bind (leP_num 4) fun _ => leP_bind (leP_num 8) fun _ => leP_bind (leP_num 8) fun _ => leP_bind (leP_num 8) fun _ => leP_bind (leP_num 2) fun _ => leP_bind (leP_take _) fun _ => leP_ret _
theorem leP_draw : LeP drawP := leP_bind (leP_num 1) fun _ => leP_take _
theorem turnP_lt {xs r : List Int} {t : Turn} (h : turnP xs = some (t, r)) : r.length < xs.length := by
  unfold turnP at h
  obtain ⟨k, r1, h1, h2⟩ := bind_inv h
  have hlt := num1_lt h1
  have hle : r.length ≤ r1.length := by
    split at h2
    · cases h2
    · split at h2
      · exact leP_bind (leP_num 1) (fun _ => leP_bind leP_small fun _ => leP_ret _) _ _ _ h2
      · exact leP_bind (leP_when (leP_num 1)) (fun _ => leP_bind (leP_when leP_hand) fun _ => leP_bind (leP_when leP_op) fun _ => leP_bind (leP_when leP_draw) fun _ => leP_ret _) _ _ _ h2
  omega
theorem turnsP_fuel : ∀ (f g : Nat) (xs : List Int), xs.length < f → xs.length < g → turnsP f xs = turnsP g xs
  | f + 1, g + 1, xs, hf, hg => by
    rw [turnsP, turnsP]
    split
    · rfl
    · cases h : turnP xs with
      | none => rfl
      | some q =>
        have := turnP_lt (t := q.1) (r := q.2) h
        simp only [Option.bind_some]
        rw [turnsP_fuel f g q.2 (by omega) (by omega)]
  | 0, _, _, h, _ => by omega
  | _ + 1, 0, _, _, h => by omega
def turnsQ (xs : List Int) : Option (List Turn) := turnsP (xs.length + 1) xs
theorem turnsQ_nil : turnsQ [] = some [] := rfl
theorem turnsQ_some {xs r : List Int} {t : Turn} (h : turnP xs = some (t, r)) : turnsQ xs = (turnsQ r).map (t :: ·) := by
  have hlt := turnP_lt h
  have hne : xs ≠ [] := fun e => by rw [e] at hlt; simp at hlt
  unfold turnsQ
  rw [turnsP, if_neg hne, h, Option.bind_some]
  show Option.map _ (turnsP xs.length r) = _
  rw [turnsP_fuel xs.length (r.length + 1) r hlt (by omega)]
theorem turnsQ_none {xs : List Int} (hne : xs ≠ []) (h : turnP xs = none) : turnsQ xs = none := by
  unfold turnsQ; rw [turnsP, if_neg hne, h]; rfl

/-- How far the turns are read. -/
def Far (xs0 : List Int) (b0 : Bool) (ts : List Turn) (xs : List Int) (b : Bool) : Prop :=
  (b = false → b0 = false ∧ turnsQ xs0 = (turnsQ xs).map (ts ++ ·)) ∧ (b = true → b0 = true ∨ turnsQ xs0 = none)
theorem Far.start (xs0 : List Int) (b0 : Bool) : Far xs0 b0 [] xs0 b0 := ⟨fun h => ⟨h, by simp⟩, .inl⟩
theorem Far.step {xs0 xs xs' : List Int} {b0 b' : Bool} {ts : List Turn} {t : Turn} (h : Far xs0 b0 ts xs false) (hne : xs ≠ []) (hr : RdP turnP xs false t xs' b') : Far xs0 b0 (ts ++ [t]) xs' b' := by
  obtain ⟨h0, h1⟩ := h.1 rfl
  refine ⟨fun e => ⟨h0, ?_⟩, fun e => .inr ?_⟩
  · rw [h1, turnsQ_some (hr.2 e).2]; simp [Function.comp_def]
  · rw [h1, turnsQ_none hne ((hr.1 e).resolve_left (by simp))]; rfl
def hdrP : Pa (Int × Int × Int × Int) := bind smallP fun a => bind (numP 8) fun b => bind smallP fun c => bind smallP fun d => ret (a, b, c, d)
theorem lifeP_eq (xs : List Int) : lifeP xs = (hdrP xs).bind fun p => (turnsQ p.2).map fun ts => ⟨p.1.1, p.1.2.1, p.1.2.2.1, p.1.2.2.2, ts⟩ := rfl
theorem decode_good {xs xs0 : List Int} {b0 : Bool} {a b c d : Int} {ts : List Turn} (hl : xs.length ≤ 65536) (h : RdP hdrP xs false (a, b, c, d) xs0 b0) (hf : Far xs0 b0 ts [] false) : decode xs = (⟨a, b, c, d, ts⟩, 0) := by
  obtain ⟨h0, h1⟩ := hf.1 rfl
  have h2 := (h.2 h0).2
  unfold decode
  rw [if_neg (by omega), lifeP_eq, h2, Option.bind_some, h1, turnsQ_nil]
  simp
theorem decode_fail {xs xs0 xs' : List Int} {b0 : Bool} {p : Int × Int × Int × Int} {ts : List Turn} (hl : xs.length ≤ 65536) (h : RdP hdrP xs false p xs0 b0) (hf : Far xs0 b0 ts xs' true) : decode xs = (Life.zero, 380) := by
  unfold decode
  rw [if_neg (by omega), lifeP_eq]
  rcases hf.2 rfl with h1 | h1
  · rw [(h.1 h1).resolve_left (by simp)]; rfl
  · cases b0 with
    | true => rw [(h.1 rfl).resolve_left (by simp)]; rfl
    | false => rw [(h.2 rfl).2, Option.bind_some, h1]; rfl
theorem decode_long {xs : List Int} (hl : 65536 < xs.length) : decode xs = (Life.zero, 3) := by unfold decode; rw [if_pos hl]
theorem rd_hdr {xs xs1 xs2 xs3 xs4 : List Int} {b b1 b2 b3 b4 : Bool} {p q r s : Int} (h1 : RdP smallP xs b p xs1 b1) (h2 : RdP (numP 8) xs1 b1 q xs2 b2) (h3 : RdP smallP xs2 b2 r xs3 b3) (h4 : RdP smallP xs3 b3 s xs4 b4) : RdP hdrP xs b (p, q, r, s) xs4 b4 :=
  h1.bind (h2.bind (h3.bind (h4.bind RdP.ret)))
theorem LR.lit {a b c d : Int} {ts : List Turn} (h1 : inR .i64 a) (h2 : inR .u64 b) (h3 : inR .i64 c) (h4 : inR .i64 d) : LR ⟨a, b, c, d, ts⟩ := ⟨h1, h2, h3, h4⟩
theorem LR.zero : LR Life.zero := LR.lit ⟨by decide, by decide⟩ ⟨by decide, by decide⟩ ⟨by decide, by decide⟩ ⟨by decide, by decide⟩
end Go.Pw.Sc

namespace Go.Pw.Sc
/-- Slices of bytes, one behind the other. -/
def VS (L : Chunk) : List Value → List (List Int) → Prop
  | [], [] => True
  | v :: vs, xs :: xss => BS L v xs ∧ VS L vs xss
  | _, _ => False
theorem VS.length {L : Chunk} : ∀ {vs : List Value} {xss : List (List Int)}, VS L vs xss → vs.length = xss.length
  | [], [], _ => rfl
  | _ :: _, _ :: _, h => by simp [VS.length h.2]
  | [], _ :: _, h => h.elim
  | _ :: _, [], h => h.elim
theorem VS.get {L : Chunk} : ∀ {vs : List Value} {xss : List (List Int)} (i : Nat) (hi : i < xss.length), VS L vs xss → ∃ v, vs[i]? = some v ∧ BS L v xss[i]
  | v :: _, _ :: _, 0, _, h => ⟨v, rfl, h.1⟩
  | _ :: _, _ :: _, i + 1, hi, h => by
    obtain ⟨v, h1, h2⟩ := VS.get i (by simpa using hi) h.2
    exact ⟨v, by simpa using h1, h2⟩
  | [], _ :: _, _, _, h => h.elim
theorem VS.mono {L L' : Chunk} (hm : ∀ p ∈ L, p ∈ L') : ∀ {vs : List Value} {xss : List (List Int)}, VS L vs xss → VS L' vs xss
  | [], [], _ => trivial
  | _ :: _, _ :: _, h => ⟨@BS.to _ _ _ _ h.1 ⟨hm⟩, VS.mono hm h.2⟩
  | [], _ :: _, h => h.elim
  | _ :: _, [], h => h.elim
theorem VS.sng {L : Chunk} : ∀ {vs : List Value} {xss : List (List Int)}, VS L vs xss → ∀ v ∈ vs, Sng v
  | _ :: _, _ :: _, h, v, hv => by
    rcases List.mem_cons.1 hv with rfl | hv
    · exact h.1.sng
    · exact VS.sng h.2 v hv
  | [], _, _, v, hv => by cases hv
theorem flat_take_succ (xss : List (List Int)) {i : Nat} (hi : i < xss.length) : (xss.take (i + 1)).flatten = (xss.take i).flatten ++ xss[i] := by
  rw [List.take_succ_eq_append_getElem hi, List.flatten_append]; simp
theorem flat_take_le (xss : List (List Int)) (i : Nat) : (xss.take i).flatten.length ≤ xss.flatten.length := by
  conv => rhs; rw [← List.take_append_drop i xss, List.flatten_append, List.length_append]
  omega
theorem flat_byt {xss : List (List Int)} (h : ∀ xs ∈ xss, Byt8 xs) : Byt8 xss.flatten := fun x hx => by
  obtain ⟨xs, h1, h2⟩ := List.mem_flatten.1 hx
  exact h xs h1 x h2
theorem right_eq (t : Turn) : Right t ↔ (1 ≤ t.kind ∧ t.kind ≤ 6) ∧ (∀ x ∈ [t.slot, t.thread, t.hslot, t.okind, (t.draws.length : Int)], InB x 255) ∧ (∀ x ∈ [t.quota, t.hgen], InB x 2147483647) ∧ (t.obytes.length : Int) ≤ 65535 ∧ t = bare t := by
  simp only [List.forall_mem_cons, List.not_mem_nil, false_implies, implies_true, and_true]
  unfold Right
  have hd : InB (t.draws.length : Int) 255 ↔ (t.draws.length : Int) ≤ 255 := ⟨fun h => h.2, fun h => ⟨by omega, h⟩⟩
  rw [hd]
  constructor
  · rintro ⟨a, b, c, d, ⟨e, f⟩, g, h, i, j⟩; exact ⟨a, ⟨b, d, e, g, i⟩, ⟨c, f⟩, h, j⟩
  · rintro ⟨a, ⟨b, d, e, g, i⟩, ⟨c, f⟩, h, j⟩; exact ⟨a, b, c, d, ⟨e, f⟩, g, h, i, j⟩
end Go.Pw.Sc

namespace Go.Pw.Sc
def preB (l : Life) : List Int := leB 4 l.frames ++ leB 8 l.key ++ leB 4 l.h0 ++ leB 4 l.h1
theorem preB_len (l : Life) : (preB l).length = 20 := by simp [preB, leB_length]
theorem encodeB_eq (l : Life) : encodeB l = preB l ++ turnsB l.turns := rfl
theorem take_le (l : Life) (i : Nat) : (preB l ++ turnsB (l.turns.take i)).length ≤ (encodeB l).length := by
  have : turnsB l.turns = turnsB (l.turns.take i) ++ turnsB (l.turns.drop i) := by rw [turnsB, turnsB, turnsB, ← List.flatten_append, ← List.map_append, List.take_append_drop]
  rw [encodeB_eq, this]
  simp only [List.length_append]
  omega
theorem frok_eq (l : Life) : FrOk l ↔ ∀ x ∈ [l.frames, l.h0, l.h1], InB x 2147483647 := by
  simp only [List.forall_mem_cons, List.not_mem_nil, false_implies, implies_true, and_true]; rfl
theorem check_two {l : Life} (h : ¬ (FrOk l ∧ ∀ t ∈ l.turns, Right t)) : check l = 2 := by rw [check, if_pos h]
theorem check_three {l : Life} (h : FrOk l ∧ ∀ t ∈ l.turns, Right t) (hl : 65536 < (encodeB l).length) : check l = 3 := by rw [check, if_neg (fun e => e h), if_pos hl]
theorem check_zero {l : Life} (h : FrOk l ∧ ∀ t ∈ l.turns, Right t) (hl : (encodeB l).length ≤ 65536) : check l = 0 := by rw [check, if_neg (fun e => e h), if_neg (by omega)]
theorem check_cases (l : Life) : check l = 0 ∨ check l = 2 ∨ check l = 3 := by
  unfold check
  split
  · exact .inr (.inl rfl)
  · split
    · exact .inr (.inr rfl)
    · exact .inl rfl
end Go.Pw.Sc

namespace Go.Pw.Sc
section
variable {xs xs1 xs2 xs3 xs4 : List Int} {k : Int}
theorem tpBad0 (e1 : numP 1 xs = none) : turnP xs = none := by unfold turnP; rw [bind_no e1]
theorem tpBad (e1 : numP 1 xs = some (k, xs1)) (hk : k < 1 ∨ 6 < k) : turnP xs = none := by unfold turnP; rw [bind_of e1, if_pos hk]
theorem tpS1 {a g : Int} (e1 : numP 1 xs = some (k, xs1)) (hk : k = 1) (e2 : handP xs1 = some ((a, g), xs2)) : turnP xs = some (⟨k, a, g, 0, 0, 0, 0, 0, 0, 0, 0, [], []⟩, xs2) := by
  unfold handP at e2
  obtain ⟨a', r1, f1, e2⟩ := bind_inv e2
  obtain ⟨g', r2, f2, e2⟩ := bind_inv e2
  obtain ⟨e, rfl⟩ := ret_inv e2
  simp only [Prod.mk.injEq] at e
  obtain ⟨rfl, rfl⟩ := e
  unfold turnP
  rw [bind_of e1, if_neg (by omega), if_pos hk, bind_of f1, bind_of f2]
  rfl
theorem tpN1 (e1 : numP 1 xs = some (k, xs1)) (hk : k = 1) (e2 : handP xs1 = none) : turnP xs = none := by
  unfold turnP
  rw [bind_of e1, if_neg (by omega), if_pos hk]
  unfold handP at e2
  cases f1 : numP 1 xs1 with
  | none => rw [bind_no f1]
  | some p =>
    rw [bind_of (r := p.2) (a := p.1) f1] at e2 ⊢
    cases f2 : smallP p.2 with
    | none => rw [bind_no f2]
    | some q => rw [bind_of (r := q.2) (a := q.1) f2] at e2; cases e2
theorem tpS2 {a g : Int} (e1 : numP 1 xs = some (k, xs1)) (hk : k = 2) (e2 : handP xs1 = some ((a, g), xs2)) : turnP xs = some (⟨k, 0, 0, 0, a, g, 0, 0, 0, 0, 0, [], []⟩, xs2) := by
  subst hk
  unfold turnP
  rw [bind_of e1, if_neg (by omega), if_neg (by omega)]
  simp only [whenP, hasH, show ¬ ((3 : Int) ≤ 2) by decide, show ¬ ((2 : Int) = 3) by decide, show ¬ ((2 : Int) = 5) by decide, show ¬ ((2 : Int) = 6) by decide, if_false, if_true, true_or, or_true, or_self, false_or, or_false]
  rw [bind_of (show ret (0 : Int) _ = some (0, _) from rfl), bind_of e2, bind_of (show ret (_ : OpP) _ = some (_, _) from rfl), bind_of (show ret (_ : List Int) _ = some (_, _) from rfl)]
  rfl
theorem tpN2 (e1 : numP 1 xs = some (k, xs1)) (hk : k = 2) (e2 : handP xs1 = none) : turnP xs = none := by
  subst hk
  unfold turnP
  rw [bind_of e1, if_neg (by omega), if_neg (by omega)]
  simp only [whenP, hasH, show ¬ ((3 : Int) ≤ 2) by decide, show ¬ ((2 : Int) = 3) by decide, show ¬ ((2 : Int) = 5) by decide, show ¬ ((2 : Int) = 6) by decide, if_false, if_true, true_or, or_true, or_self, false_or, or_false]
  rw [bind_of (show ret (0 : Int) _ = some (0, _) from rfl), bind_no e2]
theorem tpS3 {th a g : Int} (e1 : numP 1 xs = some (k, xs1)) (hk : k = 3) (e2 : numP 1 xs1 = some (th, xs2)) (e3 : handP xs2 = some ((a, g), xs3)) : turnP xs = some (⟨k, 0, 0, th, a, g, 0, 0, 0, 0, 0, [], []⟩, xs3) := by
  subst hk
  unfold turnP
  rw [bind_of e1, if_neg (by omega), if_neg (by omega)]
  simp only [whenP, hasH, show ((3 : Int) ≤ 3) by decide, show ¬ ((3 : Int) = 2) by decide, show ¬ ((3 : Int) = 5) by decide, show ¬ ((3 : Int) = 6) by decide, if_false, if_true, true_or, or_true, or_self, false_or, or_false]
  rw [bind_of e2, bind_of e3, bind_of (show ret (_ : OpP) _ = some (_, _) from rfl), bind_of (show ret (_ : List Int) _ = some (_, _) from rfl)]
  rfl
theorem tpN3 (e1 : numP 1 xs = some (k, xs1)) (hk : k = 3) (e2 : numP 1 xs1 = none) : turnP xs = none := by
  subst hk
  unfold turnP
  rw [bind_of e1, if_neg (by omega), if_neg (by omega)]
  simp only [whenP, hasH, show ((3 : Int) ≤ 3) by decide, show ¬ ((3 : Int) = 2) by decide, show ¬ ((3 : Int) = 5) by decide, show ¬ ((3 : Int) = 6) by decide, if_false, if_true, true_or, or_true, or_self, false_or, or_false]
  rw [bind_no e2]
theorem tpN3a {th : Int} (e1 : numP 1 xs = some (k, xs1)) (hk : k = 3) (e2 : numP 1 xs1 = some (th, xs2)) (e3 : handP xs2 = none) : turnP xs = none := by
  subst hk
  unfold turnP
  rw [bind_of e1, if_neg (by omega), if_neg (by omega)]
  simp only [whenP, hasH, show ((3 : Int) ≤ 3) by decide, show ¬ ((3 : Int) = 2) by decide, show ¬ ((3 : Int) = 5) by decide, show ¬ ((3 : Int) = 6) by decide, if_false, if_true, true_or, or_true, or_self, false_or, or_false]
  rw [bind_of e2, bind_no e3]
theorem tpS4 {th : Int} (e1 : numP 1 xs = some (k, xs1)) (hk : k = 4) (e2 : numP 1 xs1 = some (th, xs2)) : turnP xs = some (⟨k, 0, 0, th, 0, 0, 0, 0, 0, 0, 0, [], []⟩, xs2) := by
  subst hk
  unfold turnP
  rw [bind_of e1, if_neg (by omega), if_neg (by omega)]
  simp only [whenP, hasH, show ((3 : Int) ≤ 4) by decide, show ¬ ((4 : Int) = 2) by decide, show ¬ ((4 : Int) = 3) by decide, show ¬ ((4 : Int) = 5) by decide, show ¬ ((4 : Int) = 6) by decide, if_false, if_true, true_or, or_true, or_self, false_or, or_false]
  rw [bind_of e2, bind_of (show ret (_ : Int × Int) _ = some (_, _) from rfl), bind_of (show ret (_ : OpP) _ = some (_, _) from rfl), bind_of (show ret (_ : List Int) _ = some (_, _) from rfl)]
  rfl
theorem tpN4 (e1 : numP 1 xs = some (k, xs1)) (hk : k = 4) (e2 : numP 1 xs1 = none) : turnP xs = none := by
  subst hk
  unfold turnP
  rw [bind_of e1, if_neg (by omega), if_neg (by omega)]
  simp only [whenP, hasH, show ((3 : Int) ≤ 4) by decide, show ¬ ((4 : Int) = 2) by decide, show ¬ ((4 : Int) = 3) by decide, show ¬ ((4 : Int) = 5) by decide, show ¬ ((4 : Int) = 6) by decide, if_false, if_true, true_or, or_true, or_self, false_or, or_false]
  rw [bind_no e2]
theorem tpS5 {th a g : Int} {o : OpP} (e1 : numP 1 xs = some (k, xs1)) (hk : k = 5) (e2 : numP 1 xs1 = some (th, xs2)) (e3 : handP xs2 = some ((a, g), xs3)) (e4 : opP xs3 = some (o, xs4)) : turnP xs = some (⟨k, 0, 0, th, a, g, o.okind, o.oat, o.osize, o.omult, o.omany, o.obytes, []⟩, xs4) := by
  subst hk
  unfold turnP
  rw [bind_of e1, if_neg (by omega), if_neg (by omega)]
  simp only [whenP, hasH, show ((3 : Int) ≤ 5) by decide, show ¬ ((5 : Int) = 2) by decide, show ¬ ((5 : Int) = 3) by decide, show ¬ ((5 : Int) = 6) by decide, if_false, if_true, true_or, or_true, or_self, false_or, or_false]
  rw [bind_of e2, bind_of e3, bind_of e4, bind_of (show ret (_ : List Int) _ = some (_, _) from rfl)]
  rfl
theorem tpN5 (e1 : numP 1 xs = some (k, xs1)) (hk : k = 5) (e2 : numP 1 xs1 = none) : turnP xs = none := by
  subst hk
  unfold turnP
  rw [bind_of e1, if_neg (by omega), if_neg (by omega)]
  simp only [whenP, hasH, show ((3 : Int) ≤ 5) by decide, show ¬ ((5 : Int) = 2) by decide, show ¬ ((5 : Int) = 3) by decide, show ¬ ((5 : Int) = 6) by decide, if_false, if_true, true_or, or_true, or_self, false_or, or_false]
  rw [bind_no e2]
theorem tpN5a {th : Int} (e1 : numP 1 xs = some (k, xs1)) (hk : k = 5) (e2 : numP 1 xs1 = some (th, xs2)) (e3 : handP xs2 = none) : turnP xs = none := by
  subst hk
  unfold turnP
  rw [bind_of e1, if_neg (by omega), if_neg (by omega)]
  simp only [whenP, hasH, show ((3 : Int) ≤ 5) by decide, show ¬ ((5 : Int) = 2) by decide, show ¬ ((5 : Int) = 3) by decide, show ¬ ((5 : Int) = 6) by decide, if_false, if_true, true_or, or_true, or_self, false_or, or_false]
  rw [bind_of e2, bind_no e3]
theorem tpN5b {th : Int} {h : Int × Int} (e1 : numP 1 xs = some (k, xs1)) (hk : k = 5) (e2 : numP 1 xs1 = some (th, xs2)) (e3 : handP xs2 = some (h, xs3)) (e4 : opP xs3 = none) : turnP xs = none := by
  subst hk
  unfold turnP
  rw [bind_of e1, if_neg (by omega), if_neg (by omega)]
  simp only [whenP, hasH, show ((3 : Int) ≤ 5) by decide, show ¬ ((5 : Int) = 2) by decide, show ¬ ((5 : Int) = 3) by decide, show ¬ ((5 : Int) = 6) by decide, if_false, if_true, true_or, or_true, or_self, false_or, or_false]
  rw [bind_of e2, bind_of e3, bind_no e4]
theorem tpS6 {th : Int} {d : List Int} (e1 : numP 1 xs = some (k, xs1)) (hk : k = 6) (e2 : numP 1 xs1 = some (th, xs2)) (e3 : drawP xs2 = some (d, xs3)) : turnP xs = some (⟨k, 0, 0, th, 0, 0, 0, 0, 0, 0, 0, [], d⟩, xs3) := by
  subst hk
  unfold turnP
  rw [bind_of e1, if_neg (by omega), if_neg (by omega)]
  simp only [whenP, hasH, show ((3 : Int) ≤ 6) by decide, show ¬ ((6 : Int) = 2) by decide, show ¬ ((6 : Int) = 3) by decide, show ¬ ((6 : Int) = 5) by decide, if_false, if_true, true_or, or_true, or_self, false_or, or_false]
  rw [bind_of e2, bind_of (show ret (_ : Int × Int) _ = some (_, _) from rfl), bind_of (show ret (_ : OpP) _ = some (_, _) from rfl), bind_of e3]
  rfl
theorem tpN6 (e1 : numP 1 xs = some (k, xs1)) (hk : k = 6) (e2 : numP 1 xs1 = none) : turnP xs = none := by
  subst hk
  unfold turnP
  rw [bind_of e1, if_neg (by omega), if_neg (by omega)]
  simp only [whenP, hasH, show ((3 : Int) ≤ 6) by decide, show ¬ ((6 : Int) = 2) by decide, show ¬ ((6 : Int) = 3) by decide, show ¬ ((6 : Int) = 5) by decide, if_false, if_true, true_or, or_true, or_self, false_or, or_false]
  rw [bind_no e2]
theorem tpN6a {th : Int} (e1 : numP 1 xs = some (k, xs1)) (hk : k = 6) (e2 : numP 1 xs1 = some (th, xs2)) (e3 : drawP xs2 = none) : turnP xs = none := by
  subst hk
  unfold turnP
  rw [bind_of e1, if_neg (by omega), if_neg (by omega)]
  simp only [whenP, hasH, show ((3 : Int) ≤ 6) by decide, show ¬ ((6 : Int) = 2) by decide, show ¬ ((6 : Int) = 3) by decide, show ¬ ((6 : Int) = 5) by decide, if_false, if_true, true_or, or_true, or_self, false_or, or_false]
  rw [bind_of e2, bind_of (show ret (_ : Int × Int) _ = some (_, _) from rfl), bind_of (show ret (_ : OpP) _ = some (_, _) from rfl), bind_no e3]
end
end Go.Pw.Sc

namespace Go.Pw.Sc
section
variable {xs xs1 xs2 xs3 xs4 : List Int} {a b c d : Int}
theorem hdr_some (e1 : smallP xs = some (a, xs1)) (e2 : numP 8 xs1 = some (b, xs2)) (e3 : smallP xs2 = some (c, xs3)) (e4 : smallP xs3 = some (d, xs4)) : hdrP xs = some ((a, b, c, d), xs4) := by
  unfold hdrP; rw [bind_of e1, bind_of e2, bind_of e3, bind_of e4]; rfl
theorem hdr_no1 (e1 : smallP xs = none) : hdrP xs = none := by unfold hdrP; rw [bind_no e1]
theorem hdr_no2 (e1 : smallP xs = some (a, xs1)) (e2 : numP 8 xs1 = none) : hdrP xs = none := by unfold hdrP; rw [bind_of e1, bind_no e2]
theorem hdr_no3 (e1 : smallP xs = some (a, xs1)) (e2 : numP 8 xs1 = some (b, xs2)) (e3 : smallP xs2 = none) : hdrP xs = none := by unfold hdrP; rw [bind_of e1, bind_of e2, bind_no e3]
theorem hdr_no4 (e1 : smallP xs = some (a, xs1)) (e2 : numP 8 xs1 = some (b, xs2)) (e3 : smallP xs2 = some (c, xs3)) (e4 : smallP xs3 = none) : hdrP xs = none := by unfold hdrP; rw [bind_of e1, bind_of e2, bind_of e3, bind_no e4]
theorem decode_some {ts : List Turn} (hl : xs.length ≤ 65536) (h : hdrP xs = some ((a, b, c, d), xs1)) (ht : turnsQ xs1 = some ts) : decode xs = (⟨a, b, c, d, ts⟩, 0) := by
  unfold decode; rw [if_neg (by omega), lifeP_eq, h, Option.bind_some, ht]; rfl
theorem decode_no1 (hl : xs.length ≤ 65536) (h : hdrP xs = none) : decode xs = (Life.zero, 380) := by
  unfold decode; rw [if_neg (by omega), lifeP_eq, h]; rfl
theorem decode_no2 {p : Int × Int × Int × Int} (hl : xs.length ≤ 65536) (h : hdrP xs = some (p, xs1)) (ht : turnsQ xs1 = none) : decode xs = (Life.zero, 380) := by
  unfold decode; rw [if_neg (by omega), lifeP_eq, h, Option.bind_some, ht]; rfl
end
end Go.Pw.Sc

namespace Go.Pw.Sc
def t0 : Turn := ⟨4, 0, 0, 5, 0, 0, 0, 0, 0, 0, 0, [], []⟩
def l0 : Life := ⟨1, 2, 3, 4, [t0]⟩
def b0 : List Int := [1, 0, 0, 0, 2, 0, 0, 0, 0, 0, 0, 0, 3, 0, 0, 0, 4, 0, 0, 0, 4, 5]
theorem check_l0 : check l0 = 0 := by decide
theorem encode_l0 : encodeB l0 = b0 := by decide
theorem lr_l0 : LR l0 := LR.lit ⟨by decide, by decide⟩ ⟨by decide, by decide⟩ ⟨by decide, by decide⟩ ⟨by decide, by decide⟩
theorem tr_t0 : TR t0 := TR.lit ⟨by decide, by decide⟩ ⟨by decide, by decide⟩ ⟨by decide, by decide⟩ ⟨by decide, by decide⟩ ⟨by decide, by decide⟩ ⟨by decide, by decide⟩ ⟨by decide, by decide⟩ ⟨by decide, by decide⟩ ⟨by decide, by decide⟩ ⟨by decide, by decide⟩ ⟨by decide, by decide⟩
theorem decode_b0 : decode b0 = (l0, 0) := by
  rw [← encode_l0]
  exact decode_encode check_l0 lr_l0 (fun t ht => by rw [List.mem_singleton.1 ht]; exact tr_t0)
theorem decode_b1 : decode (List.replicate 20 0 ++ [7]) = (Life.zero, 380) := by decide
theorem decode_b2 : decode (b0.take 21) = (Life.zero, 380) := by decide
theorem byt_b0 : Byt8 b0 := by unfold Byt8; decide
theorem byt_b1 : Byt8 (List.replicate 20 0 ++ [7]) := by unfold Byt8; decide
end Go.Pw.Sc

namespace Go.Pw.Sc
theorem TurnsAt.tr {L : Chunk} : ∀ {xs : List Value} {ts : List Turn}, TurnsAt L xs ts → ∀ t ∈ ts, TR t
  | _, _ :: _, ⟨c, r, _, ⟨_, _, _, _, _, h⟩, h2⟩, t, ht => by
    rcases List.mem_cons.1 ht with rfl | ht
    · exact h
    · exact TurnsAt.tr h2 t ht
theorem TS.tr {L : Chunk} {v : Value} {ts : List Turn} (h : TS L v ts) : ∀ t ∈ ts, TR t := by obtain ⟨xs, _, h⟩ := h.rd; exact h.tr
theorem turnB_byt {t : Turn} (hb : Byt8 t.obytes) (hd : Byt8 t.draws) : Byt8 (turnB t) := by
  unfold turnB
  simp only [byt_app]
  refine ⟨leB_byt _ _, ?_⟩
  split
  · simp only [byt_app]; exact ⟨leB_byt _ _, leB_byt _ _⟩
  · simp only [byt_app]
    refine ⟨⟨⟨?_, ?_⟩, ?_⟩, ?_⟩
    · split
      · exact leB_byt _ _
      · exact byt_nil
    · split
      · simp only [byt_app]; exact ⟨leB_byt _ _, leB_byt _ _⟩
      · exact byt_nil
    · split
      · simp only [byt_app]; exact ⟨⟨⟨⟨⟨⟨leB_byt _ _, leB_byt _ _⟩, leB_byt _ _⟩, leB_byt _ _⟩, leB_byt _ _⟩, leB_byt _ _⟩, hb⟩
      · exact byt_nil
    · split
      · simp only [byt_app]; exact ⟨leB_byt _ _, hd⟩
      · exact byt_nil
theorem encodeB_byt (l : Life) (h : ∀ t ∈ l.turns, Byt8 t.obytes ∧ Byt8 t.draws) : Byt8 (encodeB l) := by
  unfold encodeB
  simp only [byt_app]
  refine ⟨⟨⟨⟨leB_byt _ _, leB_byt _ _⟩, leB_byt _ _⟩, leB_byt _ _⟩, ?_⟩
  unfold turnsB
  intro x hx
  obtain ⟨ys, h1, h2⟩ := List.mem_flatten.1 hx
  obtain ⟨t, h3, rfl⟩ := List.mem_map.1 h1
  obtain ⟨hb, hd⟩ := h t h3
  exact turnB_byt hb hd x h2
theorem TurnsAt.byt {L : Chunk} : ∀ {xs : List Value} {ts : List Turn}, TurnsAt L xs ts → ∀ t ∈ ts, Byt8 t.obytes ∧ Byt8 t.draws
  | _, _ :: _, ⟨c, r, _, ⟨_, _, _, h1, h2, _⟩, h3⟩, t, ht => by
    rcases List.mem_cons.1 ht with rfl | ht
    · exact ⟨h1.byt, h2.byt⟩
    · exact TurnsAt.byt h3 t ht
theorem TS.byt {L : Chunk} {v : Value} {ts : List Turn} (h : TS L v ts) : ∀ t ∈ ts, Byt8 t.obytes ∧ Byt8 t.draws := by obtain ⟨xs, _, h⟩ := h.rd; exact h.byt
end Go.Pw.Sc

namespace Go.Pw
open Go.ChangeShapes Go.WideShapes Go.Pw.Sc

/-- All that a world holds. -/
def whole (w : World) : Chunk := w.heap.toList.zipIdx.map fun p => (p.2, p.1)
theorem mem_whole {w : World} {b : Nat} {o : Obj} : (b, o) ∈ whole w ↔ w.heap[b]? = some o := by
  unfold whole
  rw [List.mem_map]
  constructor
  · rintro ⟨⟨o', i⟩, h, e⟩
    simp only [Prod.mk.injEq] at e
    obtain ⟨rfl, rfl⟩ := e
    have := List.mk_mem_zipIdx_iff_getElem?.1 h
    simpa using this
  · intro h
    exact ⟨(o, b), List.mk_mem_zipIdx_iff_getElem?.2 (by simpa using h), rfl⟩
theorem st_whole (w : World) : St w w (whole w) := by
  refine ⟨rfl, rfl, ?_, fun b o h => mem_whole.1 h⟩
  have e : (whole w).map Prod.fst = List.range' 0 w.heap.toList.length := by
    unfold whole
    rw [List.map_map]
    exact List.zipIdx_map_snd 0 w.heap.toList
  rw [e]
  exact List.nodup_range'
theorem whole_kept {w w' : World} (h : Pn w' (whole w)) (i : Nat) (hi : i < w.heap.size) : w'.heap[i]? = w.heap[i]? := by
  have h1 : w.heap[i]? = some w.heap[i] := by simp [hi]
  rw [h1]
  exact h i _ (mem_whole.2 h1)

section
variable {H : Type} {enc : TypeId × Value → H} {P : Program} {w : World} {base : Nat} {spare : Nat → Bool} {held : Bool}

theorem cell_block {w : World} {a : Addr} {v : Value} (h : w.cell? a = some v) : ∃ c e fr, w.heap[a.block]? = some (.cells c e fr) ∧ a.spot = none ∧ c[a.off]? = some v := by
  unfold World.cell? at h
  split at h
  · rename_i c e fr hh
    split at h
    · cases h
    · rename_i hs
      exact ⟨c, e, fr, hh, by simpa using hs, h⟩
  · cases h
theorem add_block (a : Addr) (i : Nat) : (a.add i).block = a.block := by unfold Addr.add; split <;> rfl
theorem add_plain {b k i : Nat} : (⟨b, k, none⟩ : Addr).add i = ⟨b, k + i, none⟩ := by unfold Addr.add; split <;> simp_all
theorem add_spot {a : Addr} {i : Nat} (h : (a.add i).spot = none) (hi : i = 0) : a.spot = none := by subst hi; simpa [Addr.add] using h

/-- Cells one behind the other, from an address on. -/
theorem cells_row {w : World} {a : Addr} {n : Nat} {V : Nat → Value} (hn : 0 < n) (h : ∀ i, i < n → w.cell? (a.add i) = some (V i)) :
    ∃ b k c e fr, a = ⟨b, k, none⟩ ∧ w.heap[b]? = some (.cells c e fr) ∧ k + n ≤ c.size ∧ (c.toList.drop k).take n = (List.range n).map V := by
  obtain ⟨c, e, fr, h1, h2, h3⟩ := cell_block (h 0 hn)
  rw [add_block] at h1
  have hsp : a.spot = none := add_spot h2 rfl
  obtain ⟨b, k, sp⟩ := a
  simp only at hsp h1
  subst hsp
  have hall : ∀ i, i < n → c[k + i]? = some (V i) := fun i hi => by
    obtain ⟨c', e', fr', g1, g2, g3⟩ := cell_block (h i hi)
    rw [add_plain] at g1 g3
    simp only at g1 g3
    rw [h1] at g1
    cases g1
    exact g3
  have hsz : k + n ≤ c.size := by
    have := hall (n - 1) (by omega)
    have := (Array.getElem?_eq_some_iff.1 this).1
    omega
  refine ⟨b, k, c, e, fr, rfl, h1, hsz, ?_⟩
  apply List.ext_getElem?
  intro i
  by_cases hi : i < n
  · rw [List.getElem?_take, if_pos hi, List.getElem?_drop]
    have := hall i hi
    simp [hi]
    simpa using this
  · rw [List.getElem?_take, if_neg hi]
    simp [hi]

theorem byt_of_trod {t e : TypeId} {fuel : Nat} {cs : List Value} {x : DataW H × List MemPlace} (ht : P.underlying t = some (.slice e)) (he : P.underlying e = some (.int .u8)) (hc : P.cellsOf e = 1)
    (h : DataW.trod enc P w base spare held fuel t cs = some x) : ∃ v xs, cs = [v] ∧ BS (whole w) v xs := by
  rcases Go.Deep.open_slice1 ht hc h with ⟨rfl, _⟩ | ⟨a, len, cap, m, n, V, D, Pl, rfl, hb, hl, hm, hmm, _, hx⟩
  · exact ⟨_, [], rfl, BS.nil _⟩
  · have hle : len ≤ m := by rw [hmm]; split <;> omega
    have hcap : (cap : Int) ≤ 9223372036854775807 := by have : cap ≤ maxLen := hm; unfold maxLen at this; omega
    by_cases h0 : len = 0
    · subst h0
      exact ⟨_, [], rfl, ⟨⟨rfl, .inl ⟨⟨_, _, rfl⟩, rfl⟩⟩, fun _ h => (by cases h), by simp⟩⟩
    · obtain ⟨f, hf⟩ := Go.Deep.choose_lt (α := Int) (n := m) (p := fun i k => V i = .int .u8 k ∧ 0 ≤ k ∧ k ≤ 255) (fun i hi => by
        obtain ⟨k, e1, _, hw⟩ := DataW.trod_int he (hx i hi).2
        have := bounds_u8 hw
        exact ⟨k, by simpa using e1, this.1, this.2⟩)
      obtain ⟨b, k, c, ee, fr, rfl, h1, h2, h3⟩ := cells_row (w := w) (a := a) (n := len) (V := V) (by omega) (fun i hi => (hx i (by omega)).1)
      refine ⟨_, (List.range len).map f, rfl, ⟨⟨by simp [bv], .inr ⟨b, k, cap, c, ee, fr, by simp, mem_whole.2 h1, by simp; omega, ?_, by simp; omega⟩⟩, ?_, by simp; omega⟩⟩
      · simp only [List.length_map, List.length_range, Nat.mul_one]
        rw [h3]
        unfold bv
        rw [List.map_map]
        exact List.map_congr_left fun i hi => (hf i (by have := List.mem_range.1 hi; omega)).1
      · intro y hy
        obtain ⟨i, hi, rfl⟩ := List.mem_map.1 hy
        have := hf i (by have := List.mem_range.1 hi; omega)
        exact ⟨this.2.1, by omega⟩

/-- A field's own reading. -/
theorem field_of {fs : Array Field} {t : TypeId} {fuel : Nat} {cs : List Value} {x : DataW H × List MemPlace} (ht : P.underlying t = some (.struct fs)) (h : DataW.trod enc P w base spare held fuel t cs = some x) :
    cs.length = P.cellsOf t ∧ ∃ n, ∀ (i : Nat) (f : Field), fs[i]? = some f → ∃ y, DataW.trod enc P w base spare held n f.type ((cs.drop f.offset).take (P.cellsOf f.type)) = some y := by
  obtain ⟨xs, n, _, _, h1, h2, h3⟩ := DataW.trod_struct ht h
  refine ⟨h1, n, fun i f hf => ?_⟩
  have hi : i < xs.length := by rw [h2]; exact (Array.getElem?_eq_some_iff.1 hf).1
  exact ⟨xs[i], by rw [h3 i f hf, List.getElem?_eq_getElem hi]⟩

theorem i64_of {t : TypeId} {fuel : Nat} {cs : List Value} {x : DataW H × List MemPlace} (ht : P.underlying t = some (.int .i64)) (h : DataW.trod enc P w base spare held fuel t cs = some x) : ∃ n, cs = [.int .i64 n] ∧ inR .i64 n :=
  let ⟨n, h1, _, h2⟩ := DataW.trod_int ht h; ⟨n, h1, bounds_i64 h2⟩
theorem u32_of {t : TypeId} {fuel : Nat} {cs : List Value} {x : DataW H × List MemPlace} (ht : P.underlying t = some (.int .u32)) (h : DataW.trod enc P w base spare held fuel t cs = some x) : ∃ n, cs = [.int .u32 n] ∧ inR .u32 n :=
  let ⟨n, h1, _, h2⟩ := DataW.trod_int ht h; ⟨n, h1, bounds_u32 h2⟩
theorem u64_of {t : TypeId} {fuel : Nat} {cs : List Value} {x : DataW H × List MemPlace} (ht : P.underlying t = some (.int .u64)) (h : DataW.trod enc P w base spare held fuel t cs = some x) : ∃ n, cs = [.int .u64 n] ∧ inR .u64 n :=
  let ⟨n, h1, _, h2⟩ := DataW.trod_int ht h; ⟨n, h1, bounds_u64 h2⟩

/-- A slice of turns, its elements read one by one. -/
theorem turns_of_trod {t e : TypeId} {fuel : Nat} {cs : List Value} {x : DataW H × List MemPlace} (ht : P.underlying t = some (.slice e)) (hc : P.cellsOf e = 13)
    (hel : ∀ (fuel : Nat) (cs : List Value) (x : DataW H × List MemPlace), DataW.trod enc P w base spare held fuel e cs = some x → ∃ u, TurnAt (whole w) cs u)
    (h : DataW.trod enc P w base spare held fuel t cs = some x) : ∃ v ts, cs = [v] ∧ TS (whole w) v ts := by
  rcases Go.Deep.open_slice ht h with ⟨rfl, _⟩ | ⟨a, len, cap, m, n, D, Pl, rfl, hb, hl, hm, hmm, _, hx⟩
  · exact ⟨_, [], rfl, TS.nil _⟩
  · rw [hc] at hx
    have hle : len ≤ m := by rw [hmm]; split <;> omega
    have hcap : (cap : Int) ≤ 9223372036854775807 := by have : cap ≤ maxLen := hm; unfold maxLen at this; omega
    by_cases h0 : len = 0
    · subst h0
      exact ⟨_, [], rfl, ⟨⟨[], ⟨rfl, .inl ⟨⟨_, _, rfl⟩, rfl⟩⟩, rfl⟩, by simp⟩⟩
    · have hz : Inhabited Turn := ⟨Turn.zero⟩
      obtain ⟨T, hT⟩ := Go.Deep.choose_lt (α := List Value × Turn) (n := len) (p := fun i p => w.cells? base (a.add (i * 13)) 13 = some p.1 ∧ TurnAt (whole w) p.1 p.2) (fun i hi => by
        obtain ⟨cs', h1, h2⟩ := hx i (by omega)
        obtain ⟨u, hu⟩ := hel _ _ _ h2
        exact ⟨(cs', u), h1, hu⟩)
      -- the cells in a row
      have hV : ∀ j, j < len * 13 → w.cell? (a.add j) = some (((T (j / 13)).1)[j % 13]?.getD .nilFunc) := fun j hj => by
        obtain ⟨g1, g2⟩ := hT (j / 13) (by omega)
        obtain ⟨_, g3, g4⟩ := World.cells?_some g1
        have g5 := g4 (j % 13) (by omega)
        rw [Go.Deep.add_add, show j / 13 * 13 + j % 13 = j by omega] at g5
        rw [g5, List.getElem?_eq_getElem (by omega)]
        rfl
      obtain ⟨b, k, c, ee, fr, rfl, h1, h2, h3⟩ := cells_row (w := w) (a := a) (n := len * 13) (V := fun j => ((T (j / 13)).1)[j % 13]?.getD .nilFunc) (by omega) hV
      have key : ∀ q, q ≤ len → (List.range (q * 13)).map (fun j => ((T (j / 13)).1)[j % 13]?.getD .nilFunc) = ((List.range q).map fun i => (T i).1).flatten ∧ TurnsAt (whole w) ((List.range q).map fun i => (T i).1).flatten ((List.range q).map fun i => (T i).2) := by
        intro q
        induction q with
        | zero => intro _; exact ⟨rfl, rfl⟩
        | succ q ih =>
          intro hq
          obtain ⟨i1, i2⟩ := ih (by omega)
          obtain ⟨g1, g2⟩ := hT q (by omega)
          have hl13 := g2.length
          have e1 : (List.range ((q + 1) * 13)).map (fun j => ((T (j / 13)).1)[j % 13]?.getD .nilFunc) = (List.range (q * 13)).map (fun j => ((T (j / 13)).1)[j % 13]?.getD .nilFunc) ++ (T q).1 := by
            rw [show (q + 1) * 13 = q * 13 + 13 by omega, List.range_add, List.map_append]
            congr 1
            apply List.ext_getElem?
            intro j
            by_cases hj : j < 13
            · have d1 : (q * 13 + j) / 13 = q := by omega
              have d2 : (q * 13 + j) % 13 = j := by omega
              simp [hj, d1, d2, List.getElem?_eq_getElem (show j < (T q).1.length by omega)]
            · simp [hj, List.getElem?_eq_none (show (T q).1.length ≤ j by omega)]
          refine ⟨?_, ?_⟩
          · rw [e1, i1, List.range_succ, List.map_append, List.flatten_append]; simp
          · rw [List.range_succ, List.map_append, List.map_append, List.flatten_append]
            simp only [List.map_cons, List.map_nil, List.flatten_cons, List.flatten_nil, List.append_nil]
            exact TurnsAt.snoc i2 g2
      obtain ⟨k1, k2⟩ := key len (Nat.le_refl _)
      refine ⟨_, (List.range len).map fun i => (T i).2, rfl, ⟨⟨_, ⟨?_, .inr ⟨b, k, cap, c, ee, fr, by simp, mem_whole.2 h1, by simpa using h2, ?_, by simp; omega⟩⟩, k2⟩, by simp; omega⟩⟩
      · rw [k2.length]
      · simp only [List.length_map, List.length_range]
        rw [h3, k1]
end
/-- What is as it was lies as it lay. -/
theorem keptBut_of {w w' : World} {may : MemPlace → Prop} (h1 : w'.os = w.os) (h2 : w'.output = w.output) (h : ∀ i, i < w.heap.size → w'.heap[i]? = w.heap[i]?) : w.keptBut w' may := by
  refine ⟨h1, h2, fun i hi => ?_⟩
  rw [h i hi]
  cases hh : w.heap[i]? with
  | none => rfl
  | some o => cases o <;> first | exact ⟨rfl, rfl, rfl, fun _ _ => rfl⟩ | exact Or.inr ⟨rfl, rfl⟩ | rfl
theorem sameAt_of {w w' : World} (h : ∀ i, i < w.heap.size → w'.heap[i]? = w.heap[i]?) {p : MemPlace} (hp : p.block < w.heap.size) : w.sameAt w' p := by
  cases p with
  | cell b off =>
    show w'.cell? ⟨b, off, none⟩ = w.cell? ⟨b, off, none⟩
    have h1 : w'.heap[b]? = w.heap[b]? := h b hp
    simp only [World.cell?, h1]
  | map b => exact h b hp
theorem trod_kept {H : Type} {enc : TypeId × Value → H} {P : Program} {t : TypeId} (hl : laidOutB P = true) (hr : P.readableRec t = true) (hrow : t < P.types.size) {W W' : World} {v : Value} {d : DataW H} {ps : List MemPlace}
    (h : DataW.Trod enc P W 0 (fun _ => true) true t v d ps) (hk : ∀ i, i < W.heap.size → W'.heap[i]? = W.heap[i]?) (hlt : ∀ x ∈ ps, x.block < W.heap.size) :
    DataW.Trod enc P W' 0 (fun b => decide (b < W.heap.size)) true t v d ps :=
  WideElems.Trod_stays hl hr hrow h (fun x hx => sameAt_of hk (hlt x hx)) (fun x hx => by simpa using hlt x hx)
/-- How the walk of a law ends. -/
theorem law_end {W : World} {L : Chunk} {e : Ending} {W' : World} (h : endR W (fun v L' => v = .bool true ∧ L = L') noPanic e W') : e = .returned (.bool true) ∧ St W W' L := by
  cases e with
  | returned v => obtain ⟨L', a, rfl, rfl⟩ := h; exact ⟨rfl, a⟩
  | panicked ch => obtain ⟨L', _, h⟩ := h; exact h.elim
  | outgrown => exact h.elim
end Go.Pw

namespace Go.Proofs.YtlfdaepkoagnbaaGreat
open Go Go.Pw Go.Pw.Sc
open Go.ChangeShapes Go.WideShapes Go.ChangeAt Go.RowKit
set_option maxRecDepth 100000
set_option maxHeartbeats 4000000

theorem own_none : ownKnob Tryz.prog.godebug = none := by kernel_rfl
theorem laid_out : laidOutB Tryz.prog = true := by kernel_rfl
theorem und_int : Tryz.prog.underlying 3 = some (.int .i64) := Und.out
theorem und_u64 : Tryz.prog.underlying 24 = some (.int .u64) := Und.out
theorem und_u32 : Tryz.prog.underlying 40 = some (.int .u32) := Und.out
theorem und_u8 : Tryz.prog.underlying 5 = some (.int .u8) := Und.out
theorem und_bs : Tryz.prog.underlying 22 = some (.slice 5) := Und.out
theorem und_ts : Tryz.prog.underlying 26 = some (.slice 47) := Und.out
theorem und_tk : Tryz.prog.underlying 43 = some (.int .i64) := Und.out
theorem und_ok : Tryz.prog.underlying 39 = some (.int .i64) := Und.out
theorem und_hold : Tryz.prog.underlying 25 = some (.array 2 3) := Und.out
theorem und_bool : Tryz.prog.underlying 4 = some .bool := Und.out
theorem c_int : Tryz.prog.cellsOf 3 = 1 := by kernel_rfl
theorem c_u64 : Tryz.prog.cellsOf 24 = 1 := by kernel_rfl
theorem c_u32 : Tryz.prog.cellsOf 40 = 1 := by kernel_rfl
theorem c_u8 : Tryz.prog.cellsOf 5 = 1 := by kernel_rfl
theorem c_bs : Tryz.prog.cellsOf 22 = 1 := by kernel_rfl
theorem c_ts : Tryz.prog.cellsOf 26 = 1 := by kernel_rfl
theorem c_tk : Tryz.prog.cellsOf 43 = 1 := by kernel_rfl
theorem c_ok : Tryz.prog.cellsOf 39 = 1 := by kernel_rfl
theorem c_hold : Tryz.prog.cellsOf 25 = 2 := by kernel_rfl
theorem c_h : Tryz.prog.cellsOf 45 = 2 := by kernel_rfl
theorem c_op : Tryz.prog.cellsOf 42 = 6 := by kernel_rfl
theorem c_turn : Tryz.prog.cellsOf 47 = 13 := by kernel_rfl
theorem c_life : Tryz.prog.cellsOf 28 = 5 := by kernel_rfl

theorem list2 {l : List Value} (h : l.length = 2) : ∃ a b, l = [a, b] := by
  match l, h with
  | [a, b], _ => exact ⟨a, b, rfl⟩
theorem list5 {l : List Value} (h : l.length = 5) : ∃ a b c d e, l = [a, b, c, d, e] := by
  match l, h with
  | [a, b, c, d, e], _ => exact ⟨a, b, c, d, e, rfl⟩
theorem list6 {l : List Value} (h : l.length = 6) : ∃ a b c d e f, l = [a, b, c, d, e, f] := by
  match l, h with
  | [a, b, c, d, e, f], _ => exact ⟨a, b, c, d, e, f, rfl⟩
theorem list13 {l : List Value} (h : l.length = 13) : ∃ a b c d e f g i j k m n o, l = [a, b, c, d, e, f, g, i, j, k, m, n, o] := by
  match l, h with
  | [a, b, c, d, e, f, g, i, j, k, m, n, o], _ => exact ⟨a, b, c, d, e, f, g, i, j, k, m, n, o, rfl⟩

section
variable {H : Type} {enc : TypeId × Value → H} {W : World} {base : Nat} {sp : Nat → Bool} {held : Bool} {fuel : Nat} {cs : List Value} {x : DataW H × List MemPlace}
theorem handle_of (h : DataW.trod enc Tryz.prog W base sp held fuel 45 cs = some x) : ∃ a b, cs = [.int .i64 a, .int .i64 b] ∧ inR .i64 a ∧ inR .i64 b := by
  obtain ⟨hl, n, hf⟩ := field_of Tryz.underlying45 h
  rw [c_h] at hl
  obtain ⟨c0, c1, rfl⟩ := list2 hl
  obtain ⟨y0, f0⟩ := hf 0 _ rfl
  have f0 := i64_of und_int f0
  change ∃ n, List.take (Tryz.prog.cellsOf 3) _ = _ ∧ _ at f0
  rw [c_int] at f0
  obtain ⟨a, e0, ra⟩ := f0
  simp at e0
  subst e0
  obtain ⟨y1, f1⟩ := hf 1 _ rfl
  have f1 := i64_of und_int f1
  change ∃ n, List.take (Tryz.prog.cellsOf 3) _ = _ ∧ _ at f1
  rw [c_int] at f1
  obtain ⟨b, e1, rb⟩ := f1
  simp at e1
  subst e1
  exact ⟨a, b, rfl, ra, rb⟩
theorem op_of (h : DataW.trod enc Tryz.prog W base sp held fuel 42 cs = some x) : ∃ k a s m n vb xs, cs = [.int .i64 k, .int .u32 a, .int .u64 s, .int .u64 m, .int .u64 n, vb] ∧ inR .i64 k ∧ inR .u32 a ∧ inR .u64 s ∧ inR .u64 m ∧ inR .u64 n ∧ BS (whole W) vb xs := by
  obtain ⟨hl, n, hf⟩ := field_of Tryz.underlying42 h
  rw [c_op] at hl
  obtain ⟨c0, c1, c2, c3, c4, c5, rfl⟩ := list6 hl
  obtain ⟨y0, f0⟩ := hf 0 _ rfl
  have f0 := i64_of und_ok f0
  change ∃ n, List.take (Tryz.prog.cellsOf 39) _ = _ ∧ _ at f0
  rw [c_ok] at f0
  obtain ⟨k, e0, rk⟩ := f0
  simp at e0
  subst e0
  obtain ⟨y1, f1⟩ := hf 1 _ rfl
  have f1 := u32_of und_u32 f1
  change ∃ n, List.take (Tryz.prog.cellsOf 40) _ = _ ∧ _ at f1
  rw [c_u32] at f1
  obtain ⟨a, e1, ra⟩ := f1
  simp at e1
  subst e1
  obtain ⟨y2, f2⟩ := hf 2 _ rfl
  have f2 := u64_of und_u64 f2
  change ∃ n, List.take (Tryz.prog.cellsOf 24) _ = _ ∧ _ at f2
  rw [c_u64] at f2
  obtain ⟨s, e2, rs⟩ := f2
  simp at e2
  subst e2
  obtain ⟨y3, f3⟩ := hf 3 _ rfl
  have f3 := u64_of und_u64 f3
  change ∃ n, List.take (Tryz.prog.cellsOf 24) _ = _ ∧ _ at f3
  rw [c_u64] at f3
  obtain ⟨m, e3, rm⟩ := f3
  simp at e3
  subst e3
  obtain ⟨y4, f4⟩ := hf 4 _ rfl
  have f4 := u64_of und_u64 f4
  change ∃ n, List.take (Tryz.prog.cellsOf 24) _ = _ ∧ _ at f4
  rw [c_u64] at f4
  obtain ⟨q, e4, rq⟩ := f4
  simp at e4
  subst e4
  obtain ⟨y5, f5⟩ := hf 5 _ rfl
  obtain ⟨vb, xs, e5, hb⟩ := byt_of_trod und_bs und_u8 c_u8 f5
  change List.take (Tryz.prog.cellsOf 22) _ = _ at e5
  rw [c_bs] at e5
  simp at e5
  subst e5
  exact ⟨k, a, s, m, q, c5, xs, rfl, rk, ra, rs, rm, rq, hb⟩
theorem turn_of (h : DataW.trod enc Tryz.prog W base sp held fuel 47 cs = some x) : ∃ u, TurnAt (whole W) cs u := by
  obtain ⟨hl, n, hf⟩ := field_of Tryz.underlying47 h
  rw [c_turn] at hl
  obtain ⟨c0, c1, c2, c3, c4, c5, c6, c7, c8, c9, c10, c11, c12, rfl⟩ := list13 hl
  obtain ⟨y0, f0⟩ := hf 0 _ rfl
  have f0 := i64_of und_tk f0
  change ∃ n, List.take (Tryz.prog.cellsOf 43) _ = _ ∧ _ at f0
  rw [c_tk] at f0
  obtain ⟨k, e0, rk⟩ := f0
  simp at e0
  subst e0
  obtain ⟨y1, f1⟩ := hf 1 _ rfl
  have f1 := i64_of und_int f1
  change ∃ n, List.take (Tryz.prog.cellsOf 3) _ = _ ∧ _ at f1
  rw [c_int] at f1
  obtain ⟨s, e1, rs⟩ := f1
  simp at e1
  subst e1
  obtain ⟨y2, f2⟩ := hf 2 _ rfl
  have f2 := i64_of und_int f2
  change ∃ n, List.take (Tryz.prog.cellsOf 3) _ = _ ∧ _ at f2
  rw [c_int] at f2
  obtain ⟨q, e2, rq⟩ := f2
  simp at e2
  subst e2
  obtain ⟨y3, f3⟩ := hf 3 _ rfl
  have f3 := i64_of und_int f3
  change ∃ n, List.take (Tryz.prog.cellsOf 3) _ = _ ∧ _ at f3
  rw [c_int] at f3
  obtain ⟨th, e3, rth⟩ := f3
  simp at e3
  subst e3
  obtain ⟨y4, f4⟩ := hf 4 _ rfl
  obtain ⟨a, b, e4, ra, rb⟩ := handle_of f4
  change List.take (Tryz.prog.cellsOf 45) _ = _ at e4
  rw [c_h] at e4
  simp at e4
  obtain ⟨rfl, rfl⟩ := e4
  obtain ⟨y5, f5⟩ := hf 5 _ rfl
  obtain ⟨k', a', s', m', n', vb, xs, e5, r1, r2, r3, r4, r5, hb⟩ := op_of f5
  change List.take (Tryz.prog.cellsOf 42) _ = _ at e5
  rw [c_op] at e5
  simp at e5
  obtain ⟨rfl, rfl, rfl, rfl, rfl, rfl⟩ := e5
  obtain ⟨y6, f6⟩ := hf 6 _ rfl
  obtain ⟨vd, ys, e6, hd⟩ := byt_of_trod und_bs und_u8 c_u8 f6
  change List.take (Tryz.prog.cellsOf 22) _ = _ at e6
  rw [c_bs] at e6
  simp at e6
  subst e6
  exact ⟨⟨k, s, q, th, a, b, k', a', s', m', n', xs, ys⟩, _, _, rfl, hb, hd, TR.lit rk rs rq rth ra rb r1 r2 r3 r4 r5⟩
theorem life_of (h : DataW.trod enc Tryz.prog W base sp held fuel 28 cs = some x) : ∃ l vt, cs = lcells l vt ∧ TS (whole W) vt l.turns ∧ LR l := by
  obtain ⟨hl, n, hf⟩ := field_of Tryz.underlying28 h
  rw [c_life] at hl
  obtain ⟨c0, c1, c2, c3, c4, rfl⟩ := list5 hl
  obtain ⟨y0, f0⟩ := hf 0 _ rfl
  have f0 := i64_of und_int f0
  change ∃ n, List.take (Tryz.prog.cellsOf 3) _ = _ ∧ _ at f0
  rw [c_int] at f0
  obtain ⟨f, e0, rf⟩ := f0
  simp at e0
  subst e0
  obtain ⟨y1, f1⟩ := hf 1 _ rfl
  have f1 := u64_of und_u64 f1
  change ∃ n, List.take (Tryz.prog.cellsOf 24) _ = _ ∧ _ at f1
  rw [c_u64] at f1
  obtain ⟨k, e1, rk⟩ := f1
  simp at e1
  subst e1
  obtain ⟨y2, f2⟩ := hf 2 _ rfl
  change DataW.trod enc Tryz.prog W base sp held n 25 (List.take (Tryz.prog.cellsOf 25) _) = some y2 at f2
  rw [c_hold] at f2
  obtain ⟨xs2, m2, _, _, _, l2, g2⟩ := DataW.trod_array und_hold f2
  obtain ⟨a, ea, _, wa⟩ := DataW.trod_int und_int ((g2 0 (by decide)).trans (List.getElem?_eq_getElem (by omega)))
  obtain ⟨b, eb, _, wb⟩ := DataW.trod_int und_int ((g2 1 (by decide)).trans (List.getElem?_eq_getElem (by omega)))
  rw [c_int] at ea eb
  simp at ea eb
  subst ea eb
  obtain ⟨y3, f3⟩ := hf 3 _ rfl
  obtain ⟨vt, ts, e3, ht⟩ := turns_of_trod und_ts c_turn (fun _ _ _ h => turn_of h) f3
  change List.take (Tryz.prog.cellsOf 26) _ = _ at e3
  rw [c_ts] at e3
  simp at e3
  subst e3
  exact ⟨⟨f, k, a, b, ts⟩, _, rfl, ht, LR.lit rf rk (bounds_i64 wa) (bounds_i64 wb)⟩
end
end Go.Proofs.YtlfdaepkoagnbaaGreat

namespace Go.Proofs.YtlfdaepkoagnbaaGreat
open Go Go.Pw Go.Pw.Sc
set_option maxRecDepth 100000
set_option maxHeartbeats 4000000
set_option synthInstance.maxHeartbeats 400000
set_option synthInstance.maxSize 2000
attribute [local irreducible] CW OW RW thenK blockK


/-- What Put answers. -/
def PutR (n w : Int) (N : Chunk) (u : Value) (no : Int) : Prop :=
  if isW w then (if 0 < n / 256 ^ w.toNat then N = [] ∧ u = .slice none 0 0 ∧ no = 4 else Row 5 1 N u w.toNat (bv (leB w.toNat n)) ∧ no = 0) else N = [] ∧ u = .slice none 0 0 ∧ no = 2
theorem bv_snoc (xs : List Int) (x : Int) : bv (xs ++ [x]) = bv xs ++ [.int .u8 x] := by simp [bv]
end Go.Proofs.YtlfdaepkoagnbaaGreat

namespace Go.Proofs.YtlfdaepkoagnbaaGreat
open Go Go.Pw Go.Pw.Sc
set_option maxRecDepth 100000
set_option maxHeartbeats 4000000
set_option synthInstance.maxHeartbeats 400000
set_option synthInstance.maxSize 2000
attribute [local irreducible] CW OW RW thenK blockK
attribute [local irreducible] scopeK loopK


theorem widths (L : Chunk) : Fn1 Tryz.prog 105 [] L (fun v L' => v = .agg #[.int .i64 1, .int .i64 2, .int .i64 4, .int .i64 8] ∧ L = L') := by
  intro w0; refine Spec.enter0 Tryz.func105 rfl Tryz.ntmps105 ?_
  repeat' (first | refine CW.seq ?_ | refine CW.block ?_ | refine CW.skip ?_ | refine CW.exit ?_ | refine CW.ret ?_ | refine CW.regionF (by kernel_rfl) ?_ | refine CW.condT ?_ | refine CW.condF ?_ | refine OW.skip (by rfl) (List.cons_ne_nil _ _) (fun _ => ?_) | refine OW.nil ?_ | refine OW.gT ?_ | refine OW.gF ?_ | refine OW.gF0 ?_ | refine OW.w (by constructor; omega; omega) ?_ | refine OW.decT (by omega) ?_ | refine OW.decF (by omega) ?_ | refine OW.dec (fun _ => ?_) (fun _ => ?_) | refine OW.p ?_ | refine OW.p0 ?_ | refine OW.ix (by constructor; omega; omega) ?_ | refine OW.ixA (by constructor; omega; omega) ?_ | refine OW.a (fun _ => ?_) | refine OW.u ?_ | refine thenK_n ?_ | refine thenK_ret ?_ | refine thenK_exit ?_ | refine blockK_n ?_ | refine blockK_ret ?_ | refine blockK_same ?_ | refine blockK_other ?_)
  exact bodyK.retD L (Res.of1 Tryz.results105) ⟨rfl, rfl⟩

theorem indexInt (xs : List Int) (n : Int) (v : Value) (L : Chunk) (h : Rd L 1 v xs.length (iv xs)) (hl : (xs.length : Int) ≤ 9223372036854775807) :
    Fn1 Tryz.prog 116 [v, .int .i64 n] L (fun u L' => (∃ k, u = .int .i64 k ∧ (0 ≤ k ↔ n ∈ xs)) ∧ L = L') := by
  intro w0; refine Spec.enter2 Tryz.func116 rfl Tryz.ntmps116 (by decide) ?_
  obtain ⟨a, c, rfl, hc⟩ := h.isSlice
  repeat' (first | refine CW.seq ?_ | refine CW.block ?_ | refine CW.skip ?_ | refine CW.exit ?_ | refine CW.ret ?_ | refine CW.regionF (by kernel_rfl) ?_ | refine CW.condT ?_ | refine CW.condF ?_ | refine OW.skip (by rfl) (List.cons_ne_nil _ _) (fun _ => ?_) | refine OW.nil ?_ | refine OW.gT ?_ | refine OW.gF ?_ | refine OW.gF0 ?_ | refine OW.w (by constructor; omega; omega) ?_ | refine OW.decT (by omega) ?_ | refine OW.decF (by omega) ?_ | refine OW.dec (fun _ => ?_) (fun _ => ?_) | refine OW.p ?_ | refine OW.p0 ?_ | refine OW.ix (by constructor; omega; omega) ?_ | refine OW.ixA (by constructor; omega; omega) ?_ | refine OW.a (fun _ => ?_) | refine OW.u ?_ | refine thenK_n ?_ | refine thenK_ret ?_ | refine thenK_exit ?_ | refine blockK_n ?_ | refine blockK_ret ?_ | refine blockK_same ?_ | refine blockK_other ?_)
  refine CW.count xs.length (fun i ρ ds L' => ds = [] ∧ L' = L ∧ (∀ j (hj : j < xs.length), j < i → xs[j] ≠ n) ∧ Ev ρ 0 (.slice a xs.length c) ∧ Ev ρ 1 (.int .i64 n) ∧ Ev ρ 7 (.int .i64 xs.length) ∧ Ev ρ 8 (.int .i64 i)) ⟨rfl, rfl, fun _ _ h => absurd h (by omega), inferInstance, inferInstance, inferInstance, inferInstance⟩ ?_
  rintro i ρ ds L' hi ⟨rfl, rfl, hp, e0, e1, e7, e8⟩
  by_cases hlt : i < xs.length
  · obtain ⟨b, k, cap, l, e, fr, hv, hin, hcap, hnth⟩ := h.open1 (by omega)
    cases hv
    have hn := hnth i _ hlt (iv_get hlt)
    repeat' (first | refine CW.seq ?_ | refine CW.block ?_ | refine CW.skip ?_ | refine CW.exit ?_ | refine CW.ret ?_ | refine CW.regionF (by kernel_rfl) ?_ | refine CW.condT ?_ | refine CW.condF ?_ | refine OW.skip (by rfl) (List.cons_ne_nil _ _) (fun _ => ?_) | refine OW.nil ?_ | refine OW.gT ?_ | refine OW.gF ?_ | refine OW.gF0 ?_ | refine OW.w (by constructor; omega; omega) ?_ | refine OW.decT (by omega) ?_ | refine OW.decF (by omega) ?_ | refine OW.dec (fun _ => ?_) (fun _ => ?_) | refine OW.p ?_ | refine OW.p0 ?_ | refine OW.ix (by constructor; omega; omega) ?_ | refine OW.ixA (by constructor; omega; omega) ?_ | refine OW.a (fun _ => ?_) | refine OW.u ?_ | refine thenK_n ?_ | refine thenK_ret ?_ | refine thenK_exit ?_ | refine blockK_n ?_ | refine blockK_ret ?_ | refine blockK_same ?_ | refine blockK_other ?_)
    · exact bodyK.ret (Res.one Tryz.results116) ⟨⟨i, rfl, fun _ => by have hh : n = xs[i] := (by assumption); exact hh ▸ List.getElem_mem hlt, fun _ => by omega⟩, rfl⟩
    · refine ⟨hlt, rfl, rfl, fun j hj hji => ?_, inferInstance, inferInstance, inferInstance, inferInstance⟩
      by_cases hj' : j = i
      · subst hj'; exact fun h => absurd h.symm (by assumption)
      · exact hp j hj (by omega)
  · repeat' (first | refine CW.seq ?_ | refine CW.block ?_ | refine CW.skip ?_ | refine CW.exit ?_ | refine CW.ret ?_ | refine CW.regionF (by kernel_rfl) ?_ | refine CW.condT ?_ | refine CW.condF ?_ | refine OW.skip (by rfl) (List.cons_ne_nil _ _) (fun _ => ?_) | refine OW.nil ?_ | refine OW.gT ?_ | refine OW.gF ?_ | refine OW.gF0 ?_ | refine OW.w (by constructor; omega; omega) ?_ | refine OW.decT (by omega) ?_ | refine OW.decF (by omega) ?_ | refine OW.dec (fun _ => ?_) (fun _ => ?_) | refine OW.p ?_ | refine OW.p0 ?_ | refine OW.ix (by constructor; omega; omega) ?_ | refine OW.ixA (by constructor; omega; omega) ?_ | refine OW.a (fun _ => ?_) | refine OW.u ?_ | refine thenK_n ?_ | refine thenK_ret ?_ | refine thenK_exit ?_ | refine blockK_n ?_ | refine blockK_ret ?_ | refine blockK_same ?_ | refine blockK_other ?_)
    exact bodyK.ret (Res.one Tryz.results116) ⟨⟨-1, rfl, fun h => absurd h (by decide), fun h => by
      obtain ⟨j, hj, e⟩ := List.getElem_of_mem h
      exact absurd e (hp j hj (by omega))⟩, rfl⟩

theorem containsInt (xs : List Int) (n : Int) (v : Value) (L : Chunk) (h : Rd L 1 v xs.length (iv xs)) (hl : (xs.length : Int) ≤ 9223372036854775807) :
    Fn1 Tryz.prog 106 [v, .int .i64 n] L (fun u L' => u = .bool (decide (n ∈ xs)) ∧ L = L') := by
  intro w0; refine Spec.enter2 Tryz.func106 rfl Tryz.ntmps106 (by decide) ?_
  repeat' (first | refine CW.seq ?_ | refine CW.block ?_ | refine CW.skip ?_ | refine CW.exit ?_ | refine CW.ret ?_ | refine CW.regionF (by kernel_rfl) ?_ | refine CW.condT ?_ | refine CW.condF ?_ | refine OW.skip (by rfl) (List.cons_ne_nil _ _) (fun _ => ?_) | refine OW.nil ?_ | refine OW.gT ?_ | refine OW.gF ?_ | refine OW.gF0 ?_ | refine OW.w (by constructor; omega; omega) ?_ | refine OW.decT (by omega) ?_ | refine OW.decF (by omega) ?_ | refine OW.dec (fun _ => ?_) (fun _ => ?_) | refine OW.p ?_ | refine OW.p0 ?_ | refine OW.ix (by constructor; omega; omega) ?_ | refine OW.ixA (by constructor; omega; omega) ?_ | refine OW.a (fun _ => ?_) | refine OW.u ?_ | refine thenK_n ?_ | refine thenK_ret ?_ | refine thenK_exit ?_ | refine blockK_n ?_ | refine blockK_ret ?_ | refine blockK_same ?_ | refine blockK_other ?_)
  refine OW.call (indexInt xs n v L h hl) ?_
  rintro u L' ⟨⟨k, rfl, hk⟩, rfl⟩
  repeat' (first | refine CW.seq ?_ | refine CW.block ?_ | refine CW.skip ?_ | refine CW.exit ?_ | refine CW.ret ?_ | refine CW.regionF (by kernel_rfl) ?_ | refine CW.condT ?_ | refine CW.condF ?_ | refine OW.skip (by rfl) (List.cons_ne_nil _ _) (fun _ => ?_) | refine OW.nil ?_ | refine OW.gT ?_ | refine OW.gF ?_ | refine OW.gF0 ?_ | refine OW.w (by constructor; omega; omega) ?_ | refine OW.decT (by omega) ?_ | refine OW.decF (by omega) ?_ | refine OW.dec (fun _ => ?_) (fun _ => ?_) | refine OW.p ?_ | refine OW.p0 ?_ | refine OW.ix (by constructor; omega; omega) ?_ | refine OW.ixA (by constructor; omega; omega) ?_ | refine OW.a (fun _ => ?_) | refine OW.u ?_ | refine thenK_n ?_ | refine thenK_ret ?_ | refine thenK_exit ?_ | refine blockK_n ?_ | refine blockK_ret ?_ | refine blockK_same ?_ | refine blockK_other ?_)
  all_goals refine bodyK.ret (Res.one Tryz.results106) ⟨congrArg Value.bool ?_, rfl⟩
  · exact (decide_eq_true (hk.1 (by assumption))).symm
  · exact (decide_eq_false (fun h => absurd (hk.2 h) (by assumption))).symm

theorem isWidth (k : Int) (L : Chunk) : Fn1 Tryz.prog 68 [.int .i64 k] L (fun v L' => v = .bool (decide (isW k)) ∧ L = L') := by
  intro w0; refine Spec.enter1 Tryz.func68 rfl Tryz.ntmps68 (by decide) ?_
  repeat' (first | refine CW.seq ?_ | refine CW.block ?_ | refine CW.skip ?_ | refine CW.exit ?_ | refine CW.ret ?_ | refine CW.regionF (by kernel_rfl) ?_ | refine CW.condT ?_ | refine CW.condF ?_ | refine OW.skip (by rfl) (List.cons_ne_nil _ _) (fun _ => ?_) | refine OW.nil ?_ | refine OW.gT ?_ | refine OW.gF ?_ | refine OW.gF0 ?_ | refine OW.w (by constructor; omega; omega) ?_ | refine OW.decT (by omega) ?_ | refine OW.decF (by omega) ?_ | refine OW.dec (fun _ => ?_) (fun _ => ?_) | refine OW.p ?_ | refine OW.p0 ?_ | refine OW.ix (by constructor; omega; omega) ?_ | refine OW.ixA (by constructor; omega; omega) ?_ | refine OW.a (fun _ => ?_) | refine OW.u ?_ | refine thenK_n ?_ | refine thenK_ret ?_ | refine thenK_exit ?_ | refine blockK_n ?_ | refine blockK_ret ?_ | refine blockK_same ?_ | refine blockK_other ?_)
  refine OW.call (widths L) ?_
  rintro u L' ⟨rfl, rfl⟩
  repeat' (first | refine CW.seq ?_ | refine CW.block ?_ | refine CW.skip ?_ | refine CW.exit ?_ | refine CW.ret ?_ | refine CW.regionF (by kernel_rfl) ?_ | refine CW.condT ?_ | refine CW.condF ?_ | refine OW.skip (by rfl) (List.cons_ne_nil _ _) (fun _ => ?_) | refine OW.nil ?_ | refine OW.gT ?_ | refine OW.gF ?_ | refine OW.gF0 ?_ | refine OW.w (by constructor; omega; omega) ?_ | refine OW.decT (by omega) ?_ | refine OW.decF (by omega) ?_ | refine OW.dec (fun _ => ?_) (fun _ => ?_) | refine OW.p ?_ | refine OW.p0 ?_ | refine OW.ix (by constructor; omega; omega) ?_ | refine OW.ixA (by constructor; omega; omega) ?_ | refine OW.a (fun _ => ?_) | refine OW.u ?_ | refine thenK_n ?_ | refine thenK_ret ?_ | refine thenK_exit ?_ | refine blockK_n ?_ | refine blockK_ret ?_ | refine blockK_same ?_ | refine blockK_other ?_)
  refine OW.call (containsInt [1, 2, 4, 8] k _ _ (Rd.blk (by rfl) (by decide)) (by decide)) ?_
  rintro u L' ⟨rfl, rfl⟩
  repeat' (first | refine CW.seq ?_ | refine CW.block ?_ | refine CW.skip ?_ | refine CW.exit ?_ | refine CW.ret ?_ | refine CW.regionF (by kernel_rfl) ?_ | refine CW.condT ?_ | refine CW.condF ?_ | refine OW.skip (by rfl) (List.cons_ne_nil _ _) (fun _ => ?_) | refine OW.nil ?_ | refine OW.gT ?_ | refine OW.gF ?_ | refine OW.gF0 ?_ | refine OW.w (by constructor; omega; omega) ?_ | refine OW.decT (by omega) ?_ | refine OW.decF (by omega) ?_ | refine OW.dec (fun _ => ?_) (fun _ => ?_) | refine OW.p ?_ | refine OW.p0 ?_ | refine OW.ix (by constructor; omega; omega) ?_ | refine OW.ixA (by constructor; omega; omega) ?_ | refine OW.a (fun _ => ?_) | refine OW.u ?_ | refine thenK_n ?_ | refine thenK_ret ?_ | refine thenK_exit ?_ | refine blockK_n ?_ | refine blockK_ret ?_ | refine blockK_same ?_ | refine blockK_other ?_)
  refine bodyK.retD L (Res.one Tryz.results68) ⟨congrArg Value.bool (decide_eq_decide.2 ?_), rfl⟩
  simp [isW]

theorem fits (w n : Int) (hw : isW w) (h0 : 0 ≤ n) (h1 : n < 18446744073709551616) (L : Chunk) : Fn1 Tryz.prog 109 [.agg #[.int .i64 w, .int .u64 n]] L (fun v L' => v = .bool (decide (¬ 0 < n / 256 ^ w.toNat)) ∧ L = L') := by
  intro w0; refine Spec.enter1 Tryz.func109 rfl Tryz.ntmps109 (by decide) ?_
  have hs := shr8 w.toNat (by rcases hw with rfl | rfl | rfl | rfl <;> decide) h0
  have hw0 : ((w.toNat : Nat) : Int) = w := by rcases hw with rfl | rfl | rfl | rfl <;> rfl
  have hq : 0 ≤ n / 256 ^ w.toNat := Int.ediv_nonneg h0 (Int.pow_nonneg (by omega))
  rw [hw0] at hs
  have nn : NN (8 * w) := ⟨by rcases hw with rfl | rfl | rfl | rfl <;> decide⟩
  have hw8 : 1 ≤ w ∧ w ≤ 8 := by rcases hw with rfl | rfl | rfl | rfl <;> decide
  repeat' (first | refine CW.seq ?_ | refine CW.block ?_ | refine CW.skip ?_ | refine CW.exit ?_ | refine CW.ret ?_ | refine CW.regionF (by kernel_rfl) ?_ | refine CW.condT ?_ | refine CW.condF ?_ | refine OW.skip (by rfl) (List.cons_ne_nil _ _) (fun _ => ?_) | refine OW.nil ?_ | refine OW.gT ?_ | refine OW.gF ?_ | refine OW.gF0 ?_ | refine OW.w (by constructor; omega; omega) ?_ | refine OW.decT (by omega) ?_ | refine OW.decF (by omega) ?_ | refine OW.dec (fun _ => ?_) (fun _ => ?_) | refine OW.p ?_ | refine OW.p0 ?_ | refine OW.ix (by constructor; omega; omega) ?_ | refine OW.ixA (by constructor; omega; omega) ?_ | refine OW.a (fun _ => ?_) | refine OW.u ?_ | refine thenK_n ?_ | refine thenK_ret ?_ | refine thenK_exit ?_ | refine blockK_n ?_ | refine blockK_ret ?_ | refine blockK_same ?_ | refine blockK_other ?_)
  · subst_vars
    refine bodyK.retD L (Res.one Tryz.results109) ⟨congrArg Value.bool (decide_eq_true ?_).symm, rfl⟩
    have : n / 256 ^ (8 : Int).toNat = 0 := Int.ediv_eq_zero_of_lt h0 h1
    omega
  · rw [hs] at *
    refine bodyK.retD L (Res.one Tryz.results109) ⟨congrArg Value.bool (decide_eq_true ?_).symm, rfl⟩
    omega
  · rw [hs] at *
    refine bodyK.retD L (Res.one Tryz.results109) ⟨congrArg Value.bool (decide_eq_false ?_).symm, rfl⟩
    omega

theorem bytesOf (w n : Int) (hw : isW w) (h0 : 0 ≤ n) (h1 : n < 18446744073709551616) (L : Chunk) :
    Fn1 Tryz.prog 110 [.agg #[.int .i64 w, .int .u64 n]] L (fun v L' => ∃ N, L' = N ++ L ∧ Row 5 1 N v w.toNat (bv (leB w.toNat n))) := by
  intro w0; refine Spec.enter1 Tryz.func110 rfl Tryz.ntmps110 (by decide) ?_
  have hw0 : ((w.toNat : Nat) : Int) = w := by rcases hw with rfl | rfl | rfl | rfl <;> rfl
  have hw8 : 1 ≤ w ∧ w ≤ 8 := by rcases hw with rfl | rfl | rfl | rfl <;> decide
  generalize hk : w.toNat = k at *
  subst hw0
  repeat' (first | refine CW.seq ?_ | refine CW.block ?_ | refine CW.skip ?_ | refine CW.exit ?_ | refine CW.ret ?_ | refine CW.regionF (by kernel_rfl) ?_ | refine CW.condT ?_ | refine CW.condF ?_ | refine OW.skip (by rfl) (List.cons_ne_nil _ _) (fun _ => ?_) | refine OW.nil ?_ | refine OW.gT ?_ | refine OW.gF ?_ | refine OW.gF0 ?_ | refine OW.w (by constructor; omega; omega) ?_ | refine OW.decT (by omega) ?_ | refine OW.decF (by omega) ?_ | refine OW.dec (fun _ => ?_) (fun _ => ?_) | refine OW.p ?_ | refine OW.p0 ?_ | refine OW.ix (by constructor; omega; omega) ?_ | refine OW.ixA (by constructor; omega; omega) ?_ | refine OW.a (fun _ => ?_) | refine OW.u ?_ | refine thenK_n ?_ | refine thenK_ret ?_ | refine thenK_exit ?_ | refine blockK_n ?_ | refine blockK_ret ?_ | refine blockK_same ?_ | refine blockK_other ?_)
  refine OW.makeSlice (by omega) (fun b => ?_)
  repeat' (first | refine CW.seq ?_ | refine CW.block ?_ | refine CW.skip ?_ | refine CW.exit ?_ | refine CW.ret ?_ | refine CW.regionF (by kernel_rfl) ?_ | refine CW.condT ?_ | refine CW.condF ?_ | refine OW.skip (by rfl) (List.cons_ne_nil _ _) (fun _ => ?_) | refine OW.nil ?_ | refine OW.gT ?_ | refine OW.gF ?_ | refine OW.gF0 ?_ | refine OW.w (by constructor; omega; omega) ?_ | refine OW.decT (by omega) ?_ | refine OW.decF (by omega) ?_ | refine OW.dec (fun _ => ?_) (fun _ => ?_) | refine OW.p ?_ | refine OW.p0 ?_ | refine OW.ix (by constructor; omega; omega) ?_ | refine OW.ixA (by constructor; omega; omega) ?_ | refine OW.a (fun _ => ?_) | refine OW.u ?_ | refine thenK_n ?_ | refine thenK_ret ?_ | refine thenK_exit ?_ | refine blockK_n ?_ | refine blockK_ret ?_ | refine blockK_same ?_ | refine blockK_other ?_)
  rename_i b0
  refine CW.count k (fun i ρ ds L' => ds = [] ∧ L' = (b, .cells (bv (leB i n) ++ List.replicate (k - i) (Value.int .u8 0)).toArray 5 (0, 0)) :: (b0, .cells #[.int .i64 k, .int .u64 n] 145 (0, 0)) :: L ∧ Ev ρ 1 (.pointer (some ⟨b0, 0, none⟩)) ∧ Ev ρ 3 (.slice (some ⟨b, 0, none⟩) k k) ∧ Ev ρ 9 (.int .i64 k) ∧ Ev ρ 10 (.int .i64 i)) ⟨rfl, by simp [leB, bv], inferInstance, inferInstance, inferInstance, inferInstance⟩ ?_
  rintro i ρ ds L' hi ⟨rfl, rfl, e1, e3, e9, e10⟩
  by_cases hlt : i < k
  · have hs := shr8 i (by omega) h0
    have nn : NN (8 * (i : Int)) := ⟨by omega⟩
    have hset : SetL (bv (leB i n) ++ List.replicate (k - i) (.int .u8 0)) i (.int .u8 (n / 256 ^ i % 256)) (bv (leB (i + 1) n) ++ List.replicate (k - (i + 1)) (.int .u8 0)) := by
      have hl : (bv (leB i n)).length = i := by simp [bv, leB_length]
      refine ⟨by simp [hl]; omega, ?_⟩
      rw [List.set_append_right _ _ (by omega), hl, Nat.sub_self, show k - i = (k - (i + 1)) + 1 by omega, List.replicate_succ, List.set_cons_zero, leB_snoc, bv_snoc]
      simp
    repeat' (first | refine CW.seq ?_ | refine CW.block ?_ | refine CW.skip ?_ | refine CW.exit ?_ | refine CW.ret ?_ | refine CW.regionF (by kernel_rfl) ?_ | refine CW.condT ?_ | refine CW.condF ?_ | refine OW.skip (by rfl) (List.cons_ne_nil _ _) (fun _ => ?_) | refine OW.nil ?_ | refine OW.gT ?_ | refine OW.gF ?_ | refine OW.gF0 ?_ | refine OW.w (by constructor; omega; omega) ?_ | refine OW.decT (by omega) ?_ | refine OW.decF (by omega) ?_ | refine OW.dec (fun _ => ?_) (fun _ => ?_) | refine OW.p ?_ | refine OW.p0 ?_ | refine OW.ix (by constructor; omega; omega) ?_ | refine OW.ixA (by constructor; omega; omega) ?_ | refine OW.a (fun _ => ?_) | refine OW.u ?_ | refine thenK_n ?_ | refine thenK_ret ?_ | refine thenK_exit ?_ | refine blockK_n ?_ | refine blockK_ret ?_ | refine blockK_same ?_ | refine blockK_other ?_)
    rw [hs, wrap_u8]
    repeat' (first | refine CW.seq ?_ | refine CW.block ?_ | refine CW.skip ?_ | refine CW.exit ?_ | refine CW.ret ?_ | refine CW.regionF (by kernel_rfl) ?_ | refine CW.condT ?_ | refine CW.condF ?_ | refine OW.skip (by rfl) (List.cons_ne_nil _ _) (fun _ => ?_) | refine OW.nil ?_ | refine OW.gT ?_ | refine OW.gF ?_ | refine OW.gF0 ?_ | refine OW.w (by constructor; omega; omega) ?_ | refine OW.decT (by omega) ?_ | refine OW.decF (by omega) ?_ | refine OW.dec (fun _ => ?_) (fun _ => ?_) | refine OW.p ?_ | refine OW.p0 ?_ | refine OW.ix (by constructor; omega; omega) ?_ | refine OW.ixA (by constructor; omega; omega) ?_ | refine OW.a (fun _ => ?_) | refine OW.u ?_ | refine thenK_n ?_ | refine thenK_ret ?_ | refine thenK_exit ?_ | refine blockK_n ?_ | refine blockK_ret ?_ | refine blockK_same ?_ | refine blockK_other ?_)
    exact ⟨hlt, rfl, rfl, inferInstance, inferInstance, inferInstance, inferInstance⟩
  · obtain rfl : i = k := by omega
    repeat' (first | refine CW.seq ?_ | refine CW.block ?_ | refine CW.skip ?_ | refine CW.exit ?_ | refine CW.ret ?_ | refine CW.regionF (by kernel_rfl) ?_ | refine CW.condT ?_ | refine CW.condF ?_ | refine OW.skip (by rfl) (List.cons_ne_nil _ _) (fun _ => ?_) | refine OW.nil ?_ | refine OW.gT ?_ | refine OW.gF ?_ | refine OW.gF0 ?_ | refine OW.w (by constructor; omega; omega) ?_ | refine OW.decT (by omega) ?_ | refine OW.decF (by omega) ?_ | refine OW.dec (fun _ => ?_) (fun _ => ?_) | refine OW.p ?_ | refine OW.p0 ?_ | refine OW.ix (by constructor; omega; omega) ?_ | refine OW.ixA (by constructor; omega; omega) ?_ | refine OW.a (fun _ => ?_) | refine OW.u ?_ | refine thenK_n ?_ | refine thenK_ret ?_ | refine thenK_exit ?_ | refine blockK_n ?_ | refine blockK_ret ?_ | refine blockK_same ?_ | refine blockK_other ?_)
    refine bodyK.retD ((b, .cells (bv (leB i n) ++ List.replicate (i - i) (Value.int .u8 0)).toArray 5 (0, 0)) :: L) (Res.one Tryz.results110) ⟨[(b, _)], rfl, by simp [bv, leB_length], .inr ⟨b, i, _, rfl, rfl, Nat.le_refl _, by simp [bv, leB_length]⟩⟩

theorem put (n w : Int) (h0 : 0 ≤ n) (h1 : n < 18446744073709551616) (L : Chunk) :
    Fn1 Tryz.prog 75 [.int .u64 n, .int .i64 w] L (fun v L' => ∃ N u no, v = .tuple #[u, .int .i64 no] ∧ L' = N ++ L ∧ PutR n w N u no) := by
  intro w0; refine Spec.enter2 Tryz.func75 rfl Tryz.ntmps75 (by decide) ?_
  repeat' (first | refine CW.seq ?_ | refine CW.block ?_ | refine CW.skip ?_ | refine CW.label ?_ | refine CW.exit ?_ | refine CW.goto ?_ | refine CW.ret ?_ | refine CW.regionF (by kernel_rfl) ?_ | refine CW.condT ?_ | refine CW.condF ?_ | refine CW.scope 3 ?_ | refine OW.skip (by rfl) (List.cons_ne_nil _ _) (fun _ => ?_) | refine OW.nil ?_ | refine OW.gT ?_ | refine OW.gF ?_ | refine OW.gF0 ?_ | refine OW.w (by constructor; omega; omega) ?_ | refine OW.decT (by omega) ?_ | refine OW.decF (by omega) ?_ | refine OW.dec (fun _ => ?_) (fun _ => ?_) | refine OW.p ?_ | refine OW.p0 ?_ | refine OW.ix (by constructor; omega; omega) ?_ | refine OW.ixA (by constructor; omega; omega) ?_ | refine OW.a (fun _ => ?_) | refine OW.u ?_ | refine thenK_n ?_ | refine thenK_ret ?_ | refine thenK_exit ?_ | refine thenK_goto ?_ | refine blockK_n ?_ | refine blockK_ret ?_ | refine blockK_same ?_ | refine blockK_other ?_ | refine blockK_goto ?_ | refine scopeK_n ?_ | refine scopeK_ret ?_ | refine scopeK_exit ?_ | refine scopeK_goto (by rfl) ?_)
  refine OW.call (isWidth w _) ?_
  rintro v L' ⟨rfl, rfl⟩
  by_cases hw : isW w
  · rw [decide_eq_true hw]
    repeat' (first | refine CW.seq ?_ | refine CW.block ?_ | refine CW.skip ?_ | refine CW.label ?_ | refine CW.exit ?_ | refine CW.goto ?_ | refine CW.ret ?_ | refine CW.regionF (by kernel_rfl) ?_ | refine CW.condT ?_ | refine CW.condF ?_ | refine CW.scope 3 ?_ | refine OW.skip (by rfl) (List.cons_ne_nil _ _) (fun _ => ?_) | refine OW.nil ?_ | refine OW.gT ?_ | refine OW.gF ?_ | refine OW.gF0 ?_ | refine OW.w (by constructor; omega; omega) ?_ | refine OW.decT (by omega) ?_ | refine OW.decF (by omega) ?_ | refine OW.dec (fun _ => ?_) (fun _ => ?_) | refine OW.p ?_ | refine OW.p0 ?_ | refine OW.ix (by constructor; omega; omega) ?_ | refine OW.ixA (by constructor; omega; omega) ?_ | refine OW.a (fun _ => ?_) | refine OW.u ?_ | refine thenK_n ?_ | refine thenK_ret ?_ | refine thenK_exit ?_ | refine thenK_goto ?_ | refine blockK_n ?_ | refine blockK_ret ?_ | refine blockK_same ?_ | refine blockK_other ?_ | refine blockK_goto ?_ | refine scopeK_n ?_ | refine scopeK_ret ?_ | refine scopeK_exit ?_ | refine scopeK_goto (by rfl) ?_)
    refine OW.call (fits w n hw h0 h1 _) ?_
    rintro v L' ⟨rfl, rfl⟩
    by_cases hq : 0 < n / 256 ^ w.toNat
    · rw [decide_eq_false (by simpa using hq)]
      repeat' (first | refine CW.seq ?_ | refine CW.block ?_ | refine CW.skip ?_ | refine CW.label ?_ | refine CW.exit ?_ | refine CW.goto ?_ | refine CW.ret ?_ | refine CW.regionF (by kernel_rfl) ?_ | refine CW.condT ?_ | refine CW.condF ?_ | refine CW.scope 3 ?_ | refine OW.skip (by rfl) (List.cons_ne_nil _ _) (fun _ => ?_) | refine OW.nil ?_ | refine OW.gT ?_ | refine OW.gF ?_ | refine OW.gF0 ?_ | refine OW.w (by constructor; omega; omega) ?_ | refine OW.decT (by omega) ?_ | refine OW.decF (by omega) ?_ | refine OW.dec (fun _ => ?_) (fun _ => ?_) | refine OW.p ?_ | refine OW.p0 ?_ | refine OW.ix (by constructor; omega; omega) ?_ | refine OW.ixA (by constructor; omega; omega) ?_ | refine OW.a (fun _ => ?_) | refine OW.u ?_ | refine thenK_n ?_ | refine thenK_ret ?_ | refine thenK_exit ?_ | refine thenK_goto ?_ | refine blockK_n ?_ | refine blockK_ret ?_ | refine blockK_same ?_ | refine blockK_other ?_ | refine blockK_goto ?_ | refine scopeK_n ?_ | refine scopeK_ret ?_ | refine scopeK_exit ?_ | refine scopeK_goto (by rfl) ?_)
      exact bodyK.retD L (Res.two Tryz.results75) ⟨[], _, _, rfl, rfl, by rw [PutR, if_pos hw, if_pos hq]; exact ⟨rfl, rfl, rfl⟩⟩
    · rw [decide_eq_true hq]
      repeat' (first | refine CW.seq ?_ | refine CW.block ?_ | refine CW.skip ?_ | refine CW.label ?_ | refine CW.exit ?_ | refine CW.goto ?_ | refine CW.ret ?_ | refine CW.regionF (by kernel_rfl) ?_ | refine CW.condT ?_ | refine CW.condF ?_ | refine CW.scope 3 ?_ | refine OW.skip (by rfl) (List.cons_ne_nil _ _) (fun _ => ?_) | refine OW.nil ?_ | refine OW.gT ?_ | refine OW.gF ?_ | refine OW.gF0 ?_ | refine OW.w (by constructor; omega; omega) ?_ | refine OW.decT (by omega) ?_ | refine OW.decF (by omega) ?_ | refine OW.dec (fun _ => ?_) (fun _ => ?_) | refine OW.p ?_ | refine OW.p0 ?_ | refine OW.ix (by constructor; omega; omega) ?_ | refine OW.ixA (by constructor; omega; omega) ?_ | refine OW.a (fun _ => ?_) | refine OW.u ?_ | refine thenK_n ?_ | refine thenK_ret ?_ | refine thenK_exit ?_ | refine thenK_goto ?_ | refine blockK_n ?_ | refine blockK_ret ?_ | refine blockK_same ?_ | refine blockK_other ?_ | refine blockK_goto ?_ | refine scopeK_n ?_ | refine scopeK_ret ?_ | refine scopeK_exit ?_ | refine scopeK_goto (by rfl) ?_)
      refine OW.call (bytesOf w n hw h0 h1 _) ?_
      rintro v L' ⟨N, rfl, hrow⟩
      repeat' (first | refine CW.seq ?_ | refine CW.block ?_ | refine CW.skip ?_ | refine CW.label ?_ | refine CW.exit ?_ | refine CW.goto ?_ | refine CW.ret ?_ | refine CW.regionF (by kernel_rfl) ?_ | refine CW.condT ?_ | refine CW.condF ?_ | refine CW.scope 3 ?_ | refine OW.skip (by rfl) (List.cons_ne_nil _ _) (fun _ => ?_) | refine OW.nil ?_ | refine OW.gT ?_ | refine OW.gF ?_ | refine OW.gF0 ?_ | refine OW.w (by constructor; omega; omega) ?_ | refine OW.decT (by omega) ?_ | refine OW.decF (by omega) ?_ | refine OW.dec (fun _ => ?_) (fun _ => ?_) | refine OW.p ?_ | refine OW.p0 ?_ | refine OW.ix (by constructor; omega; omega) ?_ | refine OW.ixA (by constructor; omega; omega) ?_ | refine OW.a (fun _ => ?_) | refine OW.u ?_ | refine thenK_n ?_ | refine thenK_ret ?_ | refine thenK_exit ?_ | refine thenK_goto ?_ | refine blockK_n ?_ | refine blockK_ret ?_ | refine blockK_same ?_ | refine blockK_other ?_ | refine blockK_goto ?_ | refine scopeK_n ?_ | refine scopeK_ret ?_ | refine scopeK_exit ?_ | refine scopeK_goto (by rfl) ?_)
      exact bodyK.retD (N ++ L) (Res.two Tryz.results75) ⟨N, _, _, rfl, rfl, by rw [PutR, if_pos hw, if_neg hq]; exact ⟨hrow, rfl⟩⟩
  · rw [decide_eq_false hw]
    repeat' (first | refine CW.seq ?_ | refine CW.block ?_ | refine CW.skip ?_ | refine CW.label ?_ | refine CW.exit ?_ | refine CW.goto ?_ | refine CW.ret ?_ | refine CW.regionF (by kernel_rfl) ?_ | refine CW.condT ?_ | refine CW.condF ?_ | refine CW.scope 3 ?_ | refine OW.skip (by rfl) (List.cons_ne_nil _ _) (fun _ => ?_) | refine OW.nil ?_ | refine OW.gT ?_ | refine OW.gF ?_ | refine OW.gF0 ?_ | refine OW.w (by constructor; omega; omega) ?_ | refine OW.decT (by omega) ?_ | refine OW.decF (by omega) ?_ | refine OW.dec (fun _ => ?_) (fun _ => ?_) | refine OW.p ?_ | refine OW.p0 ?_ | refine OW.ix (by constructor; omega; omega) ?_ | refine OW.ixA (by constructor; omega; omega) ?_ | refine OW.a (fun _ => ?_) | refine OW.u ?_ | refine thenK_n ?_ | refine thenK_ret ?_ | refine thenK_exit ?_ | refine thenK_goto ?_ | refine blockK_n ?_ | refine blockK_ret ?_ | refine blockK_same ?_ | refine blockK_other ?_ | refine blockK_goto ?_ | refine scopeK_n ?_ | refine scopeK_ret ?_ | refine scopeK_exit ?_ | refine scopeK_goto (by rfl) ?_)
    exact bodyK.retD L (Res.two Tryz.results75) ⟨[], _, _, rfl, rfl, by rw [PutR, if_neg hw]; exact ⟨rfl, rfl, rfl⟩⟩
end Go.Proofs.YtlfdaepkoagnbaaGreat

namespace Go.Proofs.YtlfdaepkoagnbaaGreat
open Go Go.Pw Go.Pw.Sc
set_option maxRecDepth 100000
set_option maxHeartbeats 4000000
set_option synthInstance.maxHeartbeats 400000
set_option synthInstance.maxSize 2000
attribute [local irreducible] CW OW RW thenK blockK
attribute [local irreducible] scopeK loopK


theorem backward (v : Value) [sv : Sng v] (L : Chunk) : Fn1 Tryz.prog 69 [v] L (fun u L' => ∃ bx, u = .func (.func 107) #[] #[.pointer (some ⟨bx, 0, none⟩)] ∧ L' = (bx, .cells #[v] 22 (0, 0)) :: L) := by
  intro w0; refine Spec.enter1 Tryz.func69 rfl Tryz.ntmps69 (by decide) ?_
  repeat' (first | refine CW.seq ?_ | refine CW.block ?_ | refine CW.skip ?_ | refine CW.exit ?_ | refine CW.ret ?_ | refine CW.regionF (by kernel_rfl) ?_ | refine CW.condT ?_ | refine CW.condF ?_ | refine OW.skip (by rfl) (List.cons_ne_nil _ _) (fun _ => ?_) | refine OW.nil ?_ | refine OW.gT ?_ | refine OW.gF ?_ | refine OW.gF0 ?_ | refine OW.w (by constructor; omega; omega) ?_ | refine OW.decT (by omega) ?_ | refine OW.decF (by omega) ?_ | refine OW.dec (fun _ => ?_) (fun _ => ?_) | refine OW.p ?_ | refine OW.p0 ?_ | refine OW.ix (by constructor; omega; omega) ?_ | refine OW.ixA (by constructor; omega; omega) ?_ | refine OW.a (fun _ => ?_) | refine OW.u ?_ | refine thenK_n ?_ | refine thenK_ret ?_ | refine thenK_exit ?_ | refine blockK_n ?_ | refine blockK_ret ?_ | refine blockK_same ?_ | refine blockK_other ?_)
  exact bodyK.ret (Res.one Tryz.results69) ⟨_, rfl, rfl⟩

theorem backward1 (fv : Value) (bx : Nat) (e0 : TypeId) (v : Value) (xs : List Value) (I : Nat → Chunk → Prop) (L : Chunk) (hl : (xs.length : Int) ≤ 9223372036854775807) (hI : I xs.length L)
    (hk : ∀ i L', I i L' → InC L' bx (.cells #[v] e0 (0, 0)) ∧ Rd L' 1 v xs.length xs)
    (hy : ∀ i x L', xs[i]? = some x → I (i + 1) L' → VP Tryz.prog fv [.int .i64 i, x] L' (fun u L'' => u = .bool true ∧ I i L'') noPanic) :
    Fn1 Tryz.prog 107 [fv, .pointer (some ⟨bx, 0, none⟩)] L (fun u L' => I 0 L') := by
  intro w0; refine Spec.enter2 Tryz.func107 rfl Tryz.ntmps107 (by decide) ?_
  have hin := (hk _ _ hI).1
  obtain ⟨a, c, rfl, hc⟩ := (hk _ _ hI).2.isSlice
  repeat' (first | refine CW.seq ?_ | refine CW.block ?_ | refine CW.skip ?_ | refine CW.exit ?_ | refine CW.ret ?_ | refine CW.regionF (by kernel_rfl) ?_ | refine CW.condT ?_ | refine CW.condF ?_ | refine OW.skip (by rfl) (List.cons_ne_nil _ _) (fun _ => ?_) | refine OW.nil ?_ | refine OW.gT ?_ | refine OW.gF ?_ | refine OW.gF0 ?_ | refine OW.w (by constructor; omega; omega) ?_ | refine OW.decT (by omega) ?_ | refine OW.decF (by omega) ?_ | refine OW.dec (fun _ => ?_) (fun _ => ?_) | refine OW.p ?_ | refine OW.p0 ?_ | refine OW.ix (by constructor; omega; omega) ?_ | refine OW.ixA (by constructor; omega; omega) ?_ | refine OW.a (fun _ => ?_) | refine OW.u ?_ | refine thenK_n ?_ | refine thenK_ret ?_ | refine thenK_exit ?_ | refine blockK_n ?_ | refine blockK_ret ?_ | refine blockK_same ?_ | refine blockK_other ?_)
  refine CW.loop (fun m ρ ds L' => m ≤ xs.length ∧ ds = [] ∧ I m L' ∧ Ev ρ 0 fv ∧ Ev ρ 1 (.pointer (some ⟨bx, 0, none⟩)) ∧ Ev ρ 3 (.int .i64 (m - 1))) xs.length ⟨Nat.le_refl _, rfl, hI, inferInstance, inferInstance, inferInstance⟩ ?_
  rintro m ρ ds L' ⟨hm, rfl, hI', e0, e1, e3⟩
  have hin := (hk _ _ hI').1
  have hrd := (hk _ _ hI').2
  cases m with
  | zero =>
    repeat' (first | refine CW.seq ?_ | refine CW.block ?_ | refine CW.skip ?_ | refine CW.exit ?_ | refine CW.ret ?_ | refine CW.regionF (by kernel_rfl) ?_ | refine CW.condT ?_ | refine CW.condF ?_ | refine OW.skip (by rfl) (List.cons_ne_nil _ _) (fun _ => ?_) | refine OW.nil ?_ | refine OW.gT ?_ | refine OW.gF ?_ | refine OW.gF0 ?_ | refine OW.w (by constructor; omega; omega) ?_ | refine OW.decT (by omega) ?_ | refine OW.decF (by omega) ?_ | refine OW.dec (fun _ => ?_) (fun _ => ?_) | refine OW.p ?_ | refine OW.p0 ?_ | refine OW.ix (by constructor; omega; omega) ?_ | refine OW.ixA (by constructor; omega; omega) ?_ | refine OW.a (fun _ => ?_) | refine OW.u ?_ | refine thenK_n ?_ | refine thenK_ret ?_ | refine thenK_exit ?_ | refine blockK_n ?_ | refine blockK_ret ?_ | refine blockK_same ?_ | refine blockK_other ?_)
    exact bodyK.nrm (Res.zero Tryz.results107) hI'
  | succ j =>
    have e3' : Ev ρ 3 (.int .i64 (j : Int)) := by have := e3; rwa [show (((j + 1 : Nat) : Int) - 1) = (j : Int) by omega] at this
    clear e3
    obtain ⟨b, k, cap, l, e, fr, hv, hinb, hcap, hnth⟩ := hrd.open1 (by omega)
    cases hv
    have hj : xs[j]? = some xs[j] := List.getElem?_eq_getElem (by omega)
    have hn := hnth j _ (by omega) hj
    repeat' (first | refine CW.seq ?_ | refine CW.block ?_ | refine CW.skip ?_ | refine CW.exit ?_ | refine CW.ret ?_ | refine CW.regionF (by kernel_rfl) ?_ | refine CW.condT ?_ | refine CW.condF ?_ | refine OW.skip (by rfl) (List.cons_ne_nil _ _) (fun _ => ?_) | refine OW.nil ?_ | refine OW.gT ?_ | refine OW.gF ?_ | refine OW.gF0 ?_ | refine OW.w (by constructor; omega; omega) ?_ | refine OW.decT (by omega) ?_ | refine OW.decF (by omega) ?_ | refine OW.dec (fun _ => ?_) (fun _ => ?_) | refine OW.p ?_ | refine OW.p0 ?_ | refine OW.ix (by constructor; omega; omega) ?_ | refine OW.ixA (by constructor; omega; omega) ?_ | refine OW.a (fun _ => ?_) | refine OW.u ?_ | refine thenK_n ?_ | refine thenK_ret ?_ | refine thenK_exit ?_ | refine blockK_n ?_ | refine blockK_ret ?_ | refine blockK_same ?_ | refine blockK_other ?_)
    refine OW.callV1 (hy j _ _ hj hI') ?_
    rintro u L'' ⟨rfl, hI''⟩
    repeat' (first | refine CW.seq ?_ | refine CW.block ?_ | refine CW.skip ?_ | refine CW.exit ?_ | refine CW.ret ?_ | refine CW.regionF (by kernel_rfl) ?_ | refine CW.condT ?_ | refine CW.condF ?_ | refine OW.skip (by rfl) (List.cons_ne_nil _ _) (fun _ => ?_) | refine OW.nil ?_ | refine OW.gT ?_ | refine OW.gF ?_ | refine OW.gF0 ?_ | refine OW.w (by constructor; omega; omega) ?_ | refine OW.decT (by omega) ?_ | refine OW.decF (by omega) ?_ | refine OW.dec (fun _ => ?_) (fun _ => ?_) | refine OW.p ?_ | refine OW.p0 ?_ | refine OW.ix (by constructor; omega; omega) ?_ | refine OW.ixA (by constructor; omega; omega) ?_ | refine OW.a (fun _ => ?_) | refine OW.u ?_ | refine thenK_n ?_ | refine thenK_ret ?_ | refine thenK_exit ?_ | refine blockK_n ?_ | refine blockK_ret ?_ | refine blockK_same ?_ | refine blockK_other ?_)
    exact ⟨j, by omega, by omega, rfl, hI'', inferInstance, inferInstance, inferInstance⟩

/-- The number of bytes. -/
theorem get (vb : Value) (xs : List Int) (L : Chunk) (hb : BS L vb xs) :
    Fn1 Tryz.prog 43 [vb] L (fun v L' => v = (if isW xs.length then .tuple #[.int .u64 (leN xs), .int .i64 0] else .tuple #[.int .u64 0, .int .i64 2]) ∧ L = L') := by
  intro w0; refine Spec.enterM1 Tryz.func43 rfl Tryz.ntmps43 (by decide) ?_
  have sb := hb.sng
  obtain ⟨a, c, rfl⟩ := hb.slice
  repeat' (first | refine CW.seq ?_ | refine CW.block ?_ | refine CW.skip ?_ | refine CW.exit ?_ | refine CW.ret ?_ | refine CW.regionF (by kernel_rfl) ?_ | refine CW.condT ?_ | refine CW.condF ?_ | refine OW.skip (by rfl) (List.cons_ne_nil _ _) (fun _ => ?_) | refine OW.nil ?_ | refine OW.gT ?_ | refine OW.gF ?_ | refine OW.gF0 ?_ | refine OW.w (by constructor; omega; omega) ?_ | refine OW.decT (by omega) ?_ | refine OW.decF (by omega) ?_ | refine OW.dec (fun _ => ?_) (fun _ => ?_) | refine OW.p ?_ | refine OW.p0 ?_ | refine OW.ix (by constructor; omega; omega) ?_ | refine OW.ixA (by constructor; omega; omega) ?_ | refine OW.a (fun _ => ?_) | refine OW.u ?_ | refine thenK_n ?_ | refine thenK_ret ?_ | refine thenK_exit ?_ | refine blockK_n ?_ | refine blockK_ret ?_ | refine blockK_same ?_ | refine blockK_other ?_)
  refine OW.call (isWidth _ _) ?_
  rintro v L' ⟨rfl, rfl⟩
  by_cases hw : isW xs.length
  · rw [decide_eq_true hw]
    repeat' (first | refine CW.seq ?_ | refine CW.block ?_ | refine CW.skip ?_ | refine CW.exit ?_ | refine CW.ret ?_ | refine CW.regionF (by kernel_rfl) ?_ | refine CW.condT ?_ | refine CW.condF ?_ | refine OW.skip (by rfl) (List.cons_ne_nil _ _) (fun _ => ?_) | refine OW.nil ?_ | refine OW.gT ?_ | refine OW.gF ?_ | refine OW.gF0 ?_ | refine OW.w (by constructor; omega; omega) ?_ | refine OW.decT (by omega) ?_ | refine OW.decF (by omega) ?_ | refine OW.dec (fun _ => ?_) (fun _ => ?_) | refine OW.p ?_ | refine OW.p0 ?_ | refine OW.ix (by constructor; omega; omega) ?_ | refine OW.ixA (by constructor; omega; omega) ?_ | refine OW.a (fun _ => ?_) | refine OW.u ?_ | refine thenK_n ?_ | refine thenK_ret ?_ | refine thenK_exit ?_ | refine blockK_n ?_ | refine blockK_ret ?_ | refine blockK_same ?_ | refine blockK_other ?_)
    refine OW.call (backward _ _) ?_
    rintro v L' ⟨bx, rfl, rfl⟩
    rename_i bn
    repeat' (first | refine CW.seq ?_ | refine CW.block ?_ | refine CW.skip ?_ | refine CW.exit ?_ | refine CW.ret ?_ | refine CW.regionF (by kernel_rfl) ?_ | refine CW.condT ?_ | refine CW.condF ?_ | refine OW.skip (by rfl) (List.cons_ne_nil _ _) (fun _ => ?_) | refine OW.nil ?_ | refine OW.gT ?_ | refine OW.gF ?_ | refine OW.gF0 ?_ | refine OW.w (by constructor; omega; omega) ?_ | refine OW.decT (by omega) ?_ | refine OW.decF (by omega) ?_ | refine OW.dec (fun _ => ?_) (fun _ => ?_) | refine OW.p ?_ | refine OW.p0 ?_ | refine OW.ix (by constructor; omega; omega) ?_ | refine OW.ixA (by constructor; omega; omega) ?_ | refine OW.a (fun _ => ?_) | refine OW.u ?_ | refine thenK_n ?_ | refine thenK_ret ?_ | refine thenK_exit ?_ | refine blockK_n ?_ | refine blockK_ret ?_ | refine blockK_same ?_ | refine blockK_other ?_)
    refine CW.rangeFunc (fun lp D rec hrec => ?_)
    have hw8 : xs.length ≤ 8 := by rcases hw with h | h | h | h <;> omega
    refine (backward1 (.func (.yield lp) #[] #[]) bx 22 (.slice a xs.length c) (bv xs) (fun i L' => L' = (lp, rec .ready none) :: (D, .deferred (some [])) :: (bx, .cells #[.slice a xs.length c] 22 (0, 0)) :: (bn, .cells #[.int .u64 (leN (xs.drop i))] 24 (0, 0)) :: L) _ (by simp [bv]; omega) (by simp [bv]; rfl) ?_ ?_ w0).mono ?_ (fun _ _ h => h.elim)
    · rintro i L' rfl
      exact ⟨inferInstance, by have := hb.rd; simp only [bv_length]; exact this.to⟩
    · rintro i x L' hx rfl
      have hi : i < xs.length := by have := (List.getElem?_eq_some_iff.1 hx).1; simpa [bv] using this
      have hbx := hb.byt
      have hsplit : xs.drop i = xs[i] :: xs.drop (i + 1) := List.drop_eq_getElem_cons hi
      have hby : Byt8 (xs[i] :: xs.drop (i + 1)) := hsplit ▸ fun y hy => hbx y (List.mem_of_mem_drop hy)
      have hb0 := hby _ (List.mem_cons_self ..)
      rw [bv_get hi] at hx
      cases hx
      refine VP.yield2 hrec (by decide) (by decide) (fun w0 => ?_)
      repeat' (first | refine CW.seq ?_ | refine CW.block ?_ | refine CW.skip ?_ | refine CW.exit ?_ | refine CW.ret ?_ | refine CW.regionF (by kernel_rfl) ?_ | refine CW.condT ?_ | refine CW.condF ?_ | refine OW.skip (by rfl) (List.cons_ne_nil _ _) (fun _ => ?_) | refine OW.nil ?_ | refine OW.gT ?_ | refine OW.gF ?_ | refine OW.gF0 ?_ | refine OW.w (by constructor; omega; omega) ?_ | refine OW.decT (by omega) ?_ | refine OW.decF (by omega) ?_ | refine OW.dec (fun _ => ?_) (fun _ => ?_) | refine OW.p ?_ | refine OW.p0 ?_ | refine OW.ix (by constructor; omega; omega) ?_ | refine OW.ixA (by constructor; omega; omega) ?_ | refine OW.a (fun _ => ?_) | refine OW.u ?_ | refine thenK_n ?_ | refine thenK_ret ?_ | refine thenK_exit ?_ | refine blockK_n ?_ | refine blockK_ret ?_ | refine blockK_same ?_ | refine blockK_other ?_)
      refine beginR ?_
      repeat' (first | refine CW.seq ?_ | refine CW.block ?_ | refine CW.skip ?_ | refine CW.exit ?_ | refine CW.ret ?_ | refine CW.regionF (by kernel_rfl) ?_ | refine CW.condT ?_ | refine CW.condF ?_ | refine OW.skip (by rfl) (List.cons_ne_nil _ _) (fun _ => ?_) | refine OW.nil ?_ | refine OW.gT ?_ | refine OW.gF ?_ | refine OW.gF0 ?_ | refine OW.w (by constructor; omega; omega) ?_ | refine OW.decT (by omega) ?_ | refine OW.decF (by omega) ?_ | refine OW.dec (fun _ => ?_) (fun _ => ?_) | refine OW.p ?_ | refine OW.p0 ?_ | refine OW.ix (by constructor; omega; omega) ?_ | refine OW.ixA (by constructor; omega; omega) ?_ | refine OW.a (fun _ => ?_) | refine OW.u ?_ | refine thenK_n ?_ | refine thenK_ret ?_ | refine thenK_exit ?_ | refine blockK_n ?_ | refine blockK_ret ?_ | refine blockK_same ?_ | refine blockK_other ?_)
      refine roundK.nrm ?_
      refine ⟨rfl, ?_⟩
      rw [or_step hby (by simp; omega), ← hsplit]
    · rintro u L' rfl
      refine rangeK.nrm ?_
      repeat' (first | refine CW.seq ?_ | refine CW.block ?_ | refine CW.skip ?_ | refine CW.exit ?_ | refine CW.ret ?_ | refine CW.regionF (by kernel_rfl) ?_ | refine CW.condT ?_ | refine CW.condF ?_ | refine OW.skip (by rfl) (List.cons_ne_nil _ _) (fun _ => ?_) | refine OW.nil ?_ | refine OW.gT ?_ | refine OW.gF ?_ | refine OW.gF0 ?_ | refine OW.w (by constructor; omega; omega) ?_ | refine OW.decT (by omega) ?_ | refine OW.decF (by omega) ?_ | refine OW.dec (fun _ => ?_) (fun _ => ?_) | refine OW.p ?_ | refine OW.p0 ?_ | refine OW.ix (by constructor; omega; omega) ?_ | refine OW.ixA (by constructor; omega; omega) ?_ | refine OW.a (fun _ => ?_) | refine OW.u ?_ | refine thenK_n ?_ | refine thenK_ret ?_ | refine thenK_exit ?_ | refine blockK_n ?_ | refine blockK_ret ?_ | refine blockK_same ?_ | refine blockK_other ?_)
      refine bodyM.retM L (Res.two Tryz.results43) ?_
      exact ⟨by rw [if_pos hw]; rfl, rfl⟩
  · rw [decide_eq_false hw]
    repeat' (first | refine CW.seq ?_ | refine CW.block ?_ | refine CW.skip ?_ | refine CW.exit ?_ | refine CW.ret ?_ | refine CW.regionF (by kernel_rfl) ?_ | refine CW.condT ?_ | refine CW.condF ?_ | refine OW.skip (by rfl) (List.cons_ne_nil _ _) (fun _ => ?_) | refine OW.nil ?_ | refine OW.gT ?_ | refine OW.gF ?_ | refine OW.gF0 ?_ | refine OW.w (by constructor; omega; omega) ?_ | refine OW.decT (by omega) ?_ | refine OW.decF (by omega) ?_ | refine OW.dec (fun _ => ?_) (fun _ => ?_) | refine OW.p ?_ | refine OW.p0 ?_ | refine OW.ix (by constructor; omega; omega) ?_ | refine OW.ixA (by constructor; omega; omega) ?_ | refine OW.a (fun _ => ?_) | refine OW.u ?_ | refine thenK_n ?_ | refine thenK_ret ?_ | refine thenK_exit ?_ | refine blockK_n ?_ | refine blockK_ret ?_ | refine blockK_same ?_ | refine blockK_other ?_)
    exact bodyM.ret (Res.two Tryz.results43) ⟨by rw [if_neg hw], rfl⟩
end Go.Proofs.YtlfdaepkoagnbaaGreat

namespace Go.Proofs.YtlfdaepkoagnbaaGreat
open Go Go.Pw Go.Pw.Sc
set_option maxRecDepth 100000
set_option maxHeartbeats 4000000
set_option synthInstance.maxHeartbeats 400000
set_option synthInstance.maxSize 2000
attribute [local irreducible] CW OW RW thenK blockK
attribute [local irreducible] scopeK loopK


/-- What is given up with. -/
def pnc (e : Int) : List PanicEntry := [{ v := .iface 29 (.int .i64 e), recovered := false }]

theorem must (b : Bool) (e : Int) (L : Chunk) : FnP Tryz.prog 19 [.bool b, .int .i64 e] L (fun _ L' => b = true ∧ L = L') (fun ch L' => b = false ∧ ch = pnc e ∧ L = L') := by
  intro w0; refine Spec.enter2 Tryz.func19 rfl Tryz.ntmps19 (by decide) ?_
  cases b with
  | true =>
    repeat' (first | refine CW.seq ?_ | refine CW.block ?_ | refine CW.skip ?_ | refine CW.exit ?_ | refine CW.ret ?_ | refine CW.regionF (by kernel_rfl) ?_ | refine CW.condT ?_ | refine CW.condF ?_ | refine OW.skip (by rfl) (List.cons_ne_nil _ _) (fun _ => ?_) | refine OW.nil ?_ | refine OW.gT ?_ | refine OW.gF ?_ | refine OW.gF0 ?_ | refine OW.w (by constructor; omega; omega) ?_ | refine OW.decT (by omega) ?_ | refine OW.decF (by omega) ?_ | refine OW.dec (fun _ => ?_) (fun _ => ?_) | refine OW.p ?_ | refine OW.p0 ?_ | refine OW.ix (by constructor; omega; omega) ?_ | refine OW.ixA (by constructor; omega; omega) ?_ | refine OW.a (fun _ => ?_) | refine OW.u ?_ | refine thenK_n ?_ | refine thenK_ret ?_ | refine thenK_exit ?_ | refine blockK_n ?_ | refine blockK_ret ?_ | refine blockK_same ?_ | refine blockK_other ?_)
    exact bodyK.nrm (Res.zero Tryz.results19) ⟨rfl, rfl⟩
  | false =>
    repeat' (first | refine CW.seq ?_ | refine CW.block ?_ | refine CW.skip ?_ | refine CW.exit ?_ | refine CW.ret ?_ | refine CW.regionF (by kernel_rfl) ?_ | refine CW.condT ?_ | refine CW.condF ?_ | refine OW.skip (by rfl) (List.cons_ne_nil _ _) (fun _ => ?_) | refine OW.nil ?_ | refine OW.gT ?_ | refine OW.gF ?_ | refine OW.gF0 ?_ | refine OW.w (by constructor; omega; omega) ?_ | refine OW.decT (by omega) ?_ | refine OW.decF (by omega) ?_ | refine OW.dec (fun _ => ?_) (fun _ => ?_) | refine OW.p ?_ | refine OW.p0 ?_ | refine OW.ix (by constructor; omega; omega) ?_ | refine OW.ixA (by constructor; omega; omega) ?_ | refine OW.a (fun _ => ?_) | refine OW.u ?_ | refine thenK_n ?_ | refine thenK_ret ?_ | refine thenK_exit ?_ | refine blockK_n ?_ | refine blockK_ret ?_ | refine blockK_same ?_ | refine blockK_other ?_)
    refine OW.panic ?_
    repeat' (first | refine thenK_p ?_ | refine blockK_p ?_ | refine loopK_p ?_ | refine scopeK_p ?_)
    exact bodyK.pnc L ⟨rfl, rfl, rfl⟩

theorem number_of (n w : Int) {N : Chunk} {u : Value} {no : Int} (hw : isW w) (h0 : 0 ≤ n) (h1 : n < 256 ^ w.toNat) (h : PutR n w N u no) : Row 5 1 N u w.toNat (bv (leB w.toNat n)) := by
  have e : n / 256 ^ w.toNat = 0 := Int.ediv_eq_zero_of_lt h0 h1
  rw [PutR, if_pos hw, if_neg (by rw [e]; decide)] at h
  exact h.1
theorem pow_le8' {w : Int} (h : isW w) : (256 : Int) ^ w.toNat ≤ 18446744073709551616 := by rcases h with rfl | rfl | rfl | rfl <;> decide

theorem numberInt (n w : Int) (hw : isW w) (h0 : 0 ≤ n) (h1 : n < 256 ^ w.toNat) (L : Chunk) : Fn1 Tryz.prog 54 [.int .i64 n, .int .i64 w] L (fun u L' => ∃ N, L' = N ++ L ∧ Row 5 1 N u w.toNat (bv (leB w.toNat n))) := by
  intro w0; refine Spec.enter2 Tryz.func54 rfl Tryz.ntmps54 (by decide) ?_
  have h8 := pow_le8' hw
  repeat' (first | refine CW.seq ?_ | refine CW.block ?_ | refine CW.skip ?_ | refine CW.exit ?_ | refine CW.ret ?_ | refine CW.regionF (by kernel_rfl) ?_ | refine CW.condT ?_ | refine CW.condF ?_ | refine OW.skip (by rfl) (List.cons_ne_nil _ _) (fun _ => ?_) | refine OW.nil ?_ | refine OW.gT ?_ | refine OW.gF ?_ | refine OW.gF0 ?_ | refine OW.w (by constructor; omega; omega) ?_ | refine OW.decT (by omega) ?_ | refine OW.decF (by omega) ?_ | refine OW.dec (fun _ => ?_) (fun _ => ?_) | refine OW.p ?_ | refine OW.p0 ?_ | refine OW.ix (by constructor; omega; omega) ?_ | refine OW.ixA (by constructor; omega; omega) ?_ | refine OW.a (fun _ => ?_) | refine OW.u ?_ | refine thenK_n ?_ | refine thenK_ret ?_ | refine thenK_exit ?_ | refine blockK_n ?_ | refine blockK_ret ?_ | refine blockK_same ?_ | refine blockK_other ?_)
  refine OW.call (put n w h0 (by omega) _) ?_
  rintro _ _ ⟨N, u, no, rfl, rfl, hP⟩
  have hrow := number_of n w hw h0 h1 hP
  have s1 := hrow.sng
  repeat' (first | refine CW.seq ?_ | refine CW.block ?_ | refine CW.skip ?_ | refine CW.exit ?_ | refine CW.ret ?_ | refine CW.regionF (by kernel_rfl) ?_ | refine CW.condT ?_ | refine CW.condF ?_ | refine OW.skip (by rfl) (List.cons_ne_nil _ _) (fun _ => ?_) | refine OW.nil ?_ | refine OW.gT ?_ | refine OW.gF ?_ | refine OW.gF0 ?_ | refine OW.w (by constructor; omega; omega) ?_ | refine OW.decT (by omega) ?_ | refine OW.decF (by omega) ?_ | refine OW.dec (fun _ => ?_) (fun _ => ?_) | refine OW.p ?_ | refine OW.p0 ?_ | refine OW.ix (by constructor; omega; omega) ?_ | refine OW.ixA (by constructor; omega; omega) ?_ | refine OW.a (fun _ => ?_) | refine OW.u ?_ | refine thenK_n ?_ | refine thenK_ret ?_ | refine thenK_exit ?_ | refine blockK_n ?_ | refine blockK_ret ?_ | refine blockK_same ?_ | refine blockK_other ?_)
  exact bodyK.ret (Res.one Tryz.results54) ⟨N, rfl, hrow⟩
theorem numberU64 (n w : Int) (hw : isW w) (h0 : 0 ≤ n) (h1 : n < 256 ^ w.toNat) (L : Chunk) : Fn1 Tryz.prog 55 [.int .u64 n, .int .i64 w] L (fun u L' => ∃ N, L' = N ++ L ∧ Row 5 1 N u w.toNat (bv (leB w.toNat n))) := by
  intro w0; refine Spec.enter2 Tryz.func55 rfl Tryz.ntmps55 (by decide) ?_
  have h8 := pow_le8' hw
  repeat' (first | refine CW.seq ?_ | refine CW.block ?_ | refine CW.skip ?_ | refine CW.exit ?_ | refine CW.ret ?_ | refine CW.regionF (by kernel_rfl) ?_ | refine CW.condT ?_ | refine CW.condF ?_ | refine OW.skip (by rfl) (List.cons_ne_nil _ _) (fun _ => ?_) | refine OW.nil ?_ | refine OW.gT ?_ | refine OW.gF ?_ | refine OW.gF0 ?_ | refine OW.w (by constructor; omega; omega) ?_ | refine OW.decT (by omega) ?_ | refine OW.decF (by omega) ?_ | refine OW.dec (fun _ => ?_) (fun _ => ?_) | refine OW.p ?_ | refine OW.p0 ?_ | refine OW.ix (by constructor; omega; omega) ?_ | refine OW.ixA (by constructor; omega; omega) ?_ | refine OW.a (fun _ => ?_) | refine OW.u ?_ | refine thenK_n ?_ | refine thenK_ret ?_ | refine thenK_exit ?_ | refine blockK_n ?_ | refine blockK_ret ?_ | refine blockK_same ?_ | refine blockK_other ?_)
  refine OW.call (put n w h0 (by omega) _) ?_
  rintro _ _ ⟨N, u, no, rfl, rfl, hP⟩
  have hrow := number_of n w hw h0 h1 hP
  have s1 := hrow.sng
  repeat' (first | refine CW.seq ?_ | refine CW.block ?_ | refine CW.skip ?_ | refine CW.exit ?_ | refine CW.ret ?_ | refine CW.regionF (by kernel_rfl) ?_ | refine CW.condT ?_ | refine CW.condF ?_ | refine OW.skip (by rfl) (List.cons_ne_nil _ _) (fun _ => ?_) | refine OW.nil ?_ | refine OW.gT ?_ | refine OW.gF ?_ | refine OW.gF0 ?_ | refine OW.w (by constructor; omega; omega) ?_ | refine OW.decT (by omega) ?_ | refine OW.decF (by omega) ?_ | refine OW.dec (fun _ => ?_) (fun _ => ?_) | refine OW.p ?_ | refine OW.p0 ?_ | refine OW.ix (by constructor; omega; omega) ?_ | refine OW.ixA (by constructor; omega; omega) ?_ | refine OW.a (fun _ => ?_) | refine OW.u ?_ | refine thenK_n ?_ | refine thenK_ret ?_ | refine thenK_exit ?_ | refine blockK_n ?_ | refine blockK_ret ?_ | refine blockK_same ?_ | refine blockK_other ?_)
  exact bodyK.ret (Res.one Tryz.results55) ⟨N, rfl, hrow⟩
theorem numberU32 (n w : Int) (hw : isW w) (h0 : 0 ≤ n) (h1 : n < 256 ^ w.toNat) (L : Chunk) : Fn1 Tryz.prog 96 [.int .u32 n, .int .i64 w] L (fun u L' => ∃ N, L' = N ++ L ∧ Row 5 1 N u w.toNat (bv (leB w.toNat n))) := by
  intro w0; refine Spec.enter2 Tryz.func96 rfl Tryz.ntmps96 (by decide) ?_
  have h8 := pow_le8' hw
  repeat' (first | refine CW.seq ?_ | refine CW.block ?_ | refine CW.skip ?_ | refine CW.exit ?_ | refine CW.ret ?_ | refine CW.regionF (by kernel_rfl) ?_ | refine CW.condT ?_ | refine CW.condF ?_ | refine OW.skip (by rfl) (List.cons_ne_nil _ _) (fun _ => ?_) | refine OW.nil ?_ | refine OW.gT ?_ | refine OW.gF ?_ | refine OW.gF0 ?_ | refine OW.w (by constructor; omega; omega) ?_ | refine OW.decT (by omega) ?_ | refine OW.decF (by omega) ?_ | refine OW.dec (fun _ => ?_) (fun _ => ?_) | refine OW.p ?_ | refine OW.p0 ?_ | refine OW.ix (by constructor; omega; omega) ?_ | refine OW.ixA (by constructor; omega; omega) ?_ | refine OW.a (fun _ => ?_) | refine OW.u ?_ | refine thenK_n ?_ | refine thenK_ret ?_ | refine thenK_exit ?_ | refine blockK_n ?_ | refine blockK_ret ?_ | refine blockK_same ?_ | refine blockK_other ?_)
  refine OW.call (put n w h0 (by omega) _) ?_
  rintro _ _ ⟨N, u, no, rfl, rfl, hP⟩
  have hrow := number_of n w hw h0 h1 hP
  have s1 := hrow.sng
  repeat' (first | refine CW.seq ?_ | refine CW.block ?_ | refine CW.skip ?_ | refine CW.exit ?_ | refine CW.ret ?_ | refine CW.regionF (by kernel_rfl) ?_ | refine CW.condT ?_ | refine CW.condF ?_ | refine OW.skip (by rfl) (List.cons_ne_nil _ _) (fun _ => ?_) | refine OW.nil ?_ | refine OW.gT ?_ | refine OW.gF ?_ | refine OW.gF0 ?_ | refine OW.w (by constructor; omega; omega) ?_ | refine OW.decT (by omega) ?_ | refine OW.decF (by omega) ?_ | refine OW.dec (fun _ => ?_) (fun _ => ?_) | refine OW.p ?_ | refine OW.p0 ?_ | refine OW.ix (by constructor; omega; omega) ?_ | refine OW.ixA (by constructor; omega; omega) ?_ | refine OW.a (fun _ => ?_) | refine OW.u ?_ | refine thenK_n ?_ | refine thenK_ret ?_ | refine thenK_exit ?_ | refine blockK_n ?_ | refine blockK_ret ?_ | refine blockK_same ?_ | refine blockK_other ?_)
  exact bodyK.ret (Res.one Tryz.results96) ⟨N, rfl, hrow⟩

theorem cloneB (vb : Value) (xs : List Int) (L : Chunk) (hb : BS L vb xs) (hl : xs.length ≤ 1000000) : Fn1 Tryz.prog 20 [vb] L (fun u L' => ∃ N, L' = N ++ L ∧ BS N u xs) := by
  intro w0; refine Spec.enter1 Tryz.func20 rfl Tryz.ntmps20 (by decide) ?_
  have hb0 := hb
  obtain ⟨a, c, rfl⟩ := hb.slice
  cases a with
  | none =>
    have hx : xs = [] := by
      rcases hb.rd.2 with ⟨h1, h2⟩ | ⟨b, k, cap, cc, e, fr, h1, _⟩
      · exact List.eq_nil_of_length_eq_zero h2
      · cases h1
    subst hx
    repeat' (first | refine CW.seq ?_ | refine CW.block ?_ | refine CW.skip ?_ | refine CW.exit ?_ | refine CW.ret ?_ | refine CW.regionF (by kernel_rfl) ?_ | refine CW.condT ?_ | refine CW.condF ?_ | refine OW.skip (by rfl) (List.cons_ne_nil _ _) (fun _ => ?_) | refine OW.nil ?_ | refine OW.gT ?_ | refine OW.gF ?_ | refine OW.gF0 ?_ | refine OW.w (by constructor; omega; omega) ?_ | refine OW.decT (by omega) ?_ | refine OW.decF (by omega) ?_ | refine OW.dec (fun _ => ?_) (fun _ => ?_) | refine OW.p ?_ | refine OW.p0 ?_ | refine OW.ix (by constructor; omega; omega) ?_ | refine OW.ixA (by constructor; omega; omega) ?_ | refine OW.a (fun _ => ?_) | refine OW.u ?_ | refine thenK_n ?_ | refine thenK_ret ?_ | refine thenK_exit ?_ | refine blockK_n ?_ | refine blockK_ret ?_ | refine blockK_same ?_ | refine blockK_other ?_)
    exact bodyK.ret (Res.one Tryz.results20) ⟨[], rfl, BS.nil _⟩
  | some ad =>
    repeat' (first | refine CW.seq ?_ | refine CW.block ?_ | refine CW.skip ?_ | refine CW.exit ?_ | refine CW.ret ?_ | refine CW.regionF (by kernel_rfl) ?_ | refine CW.condT ?_ | refine CW.condF ?_ | refine OW.skip (by rfl) (List.cons_ne_nil _ _) (fun _ => ?_) | refine OW.nil ?_ | refine OW.gT ?_ | refine OW.gF ?_ | refine OW.gF0 ?_ | refine OW.w (by constructor; omega; omega) ?_ | refine OW.decT (by omega) ?_ | refine OW.decF (by omega) ?_ | refine OW.dec (fun _ => ?_) (fun _ => ?_) | refine OW.p ?_ | refine OW.p0 ?_ | refine OW.ix (by constructor; omega; omega) ?_ | refine OW.ixA (by constructor; omega; omega) ?_ | refine OW.a (fun _ => ?_) | refine OW.u ?_ | refine thenK_n ?_ | refine thenK_ret ?_ | refine thenK_exit ?_ | refine blockK_n ?_ | refine blockK_ret ?_ | refine blockK_same ?_ | refine blockK_other ?_)
    rename_i bz
    have hrow : Row 5 1 [(bz, .cells #[] 5 (0, 0))] (.slice (some ⟨bz, 0, none⟩) 0 0) 0 (bv []) := Row.build rfl
    refine OW.append hrow inferInstance hb0.to.rd (bv_sng _) (by omega) (fun v' N' hrow' => ?_)
    rw [← bv_app, List.nil_append] at hrow'
    have s1 := hrow'.sng
    repeat' (first | refine CW.seq ?_ | refine CW.block ?_ | refine CW.skip ?_ | refine CW.exit ?_ | refine CW.ret ?_ | refine CW.regionF (by kernel_rfl) ?_ | refine CW.condT ?_ | refine CW.condF ?_ | refine OW.skip (by rfl) (List.cons_ne_nil _ _) (fun _ => ?_) | refine OW.nil ?_ | refine OW.gT ?_ | refine OW.gF ?_ | refine OW.gF0 ?_ | refine OW.w (by constructor; omega; omega) ?_ | refine OW.decT (by omega) ?_ | refine OW.decF (by omega) ?_ | refine OW.dec (fun _ => ?_) (fun _ => ?_) | refine OW.p ?_ | refine OW.p0 ?_ | refine OW.ix (by constructor; omega; omega) ?_ | refine OW.ixA (by constructor; omega; omega) ?_ | refine OW.a (fun _ => ?_) | refine OW.u ?_ | refine thenK_n ?_ | refine thenK_ret ?_ | refine thenK_exit ?_ | refine blockK_n ?_ | refine blockK_ret ?_ | refine blockK_same ?_ | refine blockK_other ?_)
    exact bodyK.ret (Res.one Tryz.results20) ⟨N', rfl, Row.bs hrow' hb0.byt hb0.len⟩
theorem cloneS (vb : Value) (xs : List Int) (L : Chunk) (hb : BS L vb xs) (hl : xs.length ≤ 1000000) : Fn1 Tryz.prog 70 [vb] L (fun u L' => ∃ N, L' = N ++ L ∧ BS N u xs) := by
  intro w0; refine Spec.enter1 Tryz.func70 rfl Tryz.ntmps70 (by decide) ?_
  have hb0 := hb
  obtain ⟨a, c, rfl⟩ := hb.slice
  cases a with
  | none =>
    have hx : xs = [] := by
      rcases hb.rd.2 with ⟨h1, h2⟩ | ⟨b, k, cap, cc, e, fr, h1, _⟩
      · exact List.eq_nil_of_length_eq_zero h2
      · cases h1
    subst hx
    repeat' (first | refine CW.seq ?_ | refine CW.block ?_ | refine CW.skip ?_ | refine CW.exit ?_ | refine CW.ret ?_ | refine CW.regionF (by kernel_rfl) ?_ | refine CW.condT ?_ | refine CW.condF ?_ | refine OW.skip (by rfl) (List.cons_ne_nil _ _) (fun _ => ?_) | refine OW.nil ?_ | refine OW.gT ?_ | refine OW.gF ?_ | refine OW.gF0 ?_ | refine OW.w (by constructor; omega; omega) ?_ | refine OW.decT (by omega) ?_ | refine OW.decF (by omega) ?_ | refine OW.dec (fun _ => ?_) (fun _ => ?_) | refine OW.p ?_ | refine OW.p0 ?_ | refine OW.ix (by constructor; omega; omega) ?_ | refine OW.ixA (by constructor; omega; omega) ?_ | refine OW.a (fun _ => ?_) | refine OW.u ?_ | refine thenK_n ?_ | refine thenK_ret ?_ | refine thenK_exit ?_ | refine blockK_n ?_ | refine blockK_ret ?_ | refine blockK_same ?_ | refine blockK_other ?_)
    exact bodyK.ret (Res.one Tryz.results70) ⟨[], rfl, BS.nil _⟩
  | some ad =>
    repeat' (first | refine CW.seq ?_ | refine CW.block ?_ | refine CW.skip ?_ | refine CW.exit ?_ | refine CW.ret ?_ | refine CW.regionF (by kernel_rfl) ?_ | refine CW.condT ?_ | refine CW.condF ?_ | refine OW.skip (by rfl) (List.cons_ne_nil _ _) (fun _ => ?_) | refine OW.nil ?_ | refine OW.gT ?_ | refine OW.gF ?_ | refine OW.gF0 ?_ | refine OW.w (by constructor; omega; omega) ?_ | refine OW.decT (by omega) ?_ | refine OW.decF (by omega) ?_ | refine OW.dec (fun _ => ?_) (fun _ => ?_) | refine OW.p ?_ | refine OW.p0 ?_ | refine OW.ix (by constructor; omega; omega) ?_ | refine OW.ixA (by constructor; omega; omega) ?_ | refine OW.a (fun _ => ?_) | refine OW.u ?_ | refine thenK_n ?_ | refine thenK_ret ?_ | refine thenK_exit ?_ | refine blockK_n ?_ | refine blockK_ret ?_ | refine blockK_same ?_ | refine blockK_other ?_)
    rename_i bz
    have hrow : Row 5 1 [(bz, .cells #[] 5 (0, 0))] (.slice (some ⟨bz, 0, none⟩) 0 0) 0 (bv []) := Row.build rfl
    refine OW.append hrow inferInstance hb0.to.rd (bv_sng _) (by omega) (fun v' N' hrow' => ?_)
    rw [← bv_app, List.nil_append] at hrow'
    have s1 := hrow'.sng
    repeat' (first | refine CW.seq ?_ | refine CW.block ?_ | refine CW.skip ?_ | refine CW.exit ?_ | refine CW.ret ?_ | refine CW.regionF (by kernel_rfl) ?_ | refine CW.condT ?_ | refine CW.condF ?_ | refine OW.skip (by rfl) (List.cons_ne_nil _ _) (fun _ => ?_) | refine OW.nil ?_ | refine OW.gT ?_ | refine OW.gF ?_ | refine OW.gF0 ?_ | refine OW.w (by constructor; omega; omega) ?_ | refine OW.decT (by omega) ?_ | refine OW.decF (by omega) ?_ | refine OW.dec (fun _ => ?_) (fun _ => ?_) | refine OW.p ?_ | refine OW.p0 ?_ | refine OW.ix (by constructor; omega; omega) ?_ | refine OW.ixA (by constructor; omega; omega) ?_ | refine OW.a (fun _ => ?_) | refine OW.u ?_ | refine thenK_n ?_ | refine thenK_ret ?_ | refine thenK_exit ?_ | refine blockK_n ?_ | refine blockK_ret ?_ | refine blockK_same ?_ | refine blockK_other ?_)
    exact bodyK.ret (Res.one Tryz.results70) ⟨N', rfl, Row.bs hrow' hb0.byt hb0.len⟩
end Go.Proofs.YtlfdaepkoagnbaaGreat

namespace Go.Proofs.YtlfdaepkoagnbaaGreat
open Go Go.Pw Go.Pw.Sc
set_option maxRecDepth 100000
set_option maxHeartbeats 4000000
set_option synthInstance.maxHeartbeats 400000
set_option synthInstance.maxSize 2000
attribute [local irreducible] CW OW RW thenK blockK
attribute [local irreducible] scopeK loopK


theorem grow (n : Int) (h0 : 0 ≤ n) (h1 : n ≤ 1000000) (L : Chunk) : Fn1 Tryz.prog 74 [.slice none 0 0, .int .i64 n] L (fun u L' => ∃ N, L' = N ++ L ∧ Row 5 1 N u 0 []) := by
  intro w0; refine Spec.enter2 Tryz.func74 rfl Tryz.ntmps74 (by decide) ?_
  by_cases hn : 0 < n
  · repeat' (first | refine CW.seq ?_ | refine CW.block ?_ | refine CW.skip ?_ | refine CW.exit ?_ | refine CW.ret ?_ | refine CW.regionF (by kernel_rfl) ?_ | refine CW.condT ?_ | refine CW.condF ?_ | refine OW.skip (by rfl) (List.cons_ne_nil _ _) (fun _ => ?_) | refine OW.nil ?_ | refine OW.gT ?_ | refine OW.gF ?_ | refine OW.gF0 ?_ | refine OW.w (by constructor; omega; omega) ?_ | refine OW.decT (by omega) ?_ | refine OW.decF (by omega) ?_ | refine OW.dec (fun _ => ?_) (fun _ => ?_) | refine OW.p ?_ | refine OW.p0 ?_ | refine OW.ix (by constructor; omega; omega) ?_ | refine OW.ixA (by constructor; omega; omega) ?_ | refine OW.a (fun _ => ?_) | refine OW.u ?_ | refine thenK_n ?_ | refine thenK_ret ?_ | refine thenK_exit ?_ | refine blockK_n ?_ | refine blockK_ret ?_ | refine blockK_same ?_ | refine blockK_other ?_)
    refine OW.slHi (BS.nil L).rd ⟨by omega, by simp⟩ ?_
    rw [show slV (.slice none 0 0) 0 0 1 = .slice none 0 0 from rfl]
    repeat' (first | refine CW.seq ?_ | refine CW.block ?_ | refine CW.skip ?_ | refine CW.exit ?_ | refine CW.ret ?_ | refine CW.regionF (by kernel_rfl) ?_ | refine CW.condT ?_ | refine CW.condF ?_ | refine OW.skip (by rfl) (List.cons_ne_nil _ _) (fun _ => ?_) | refine OW.nil ?_ | refine OW.gT ?_ | refine OW.gF ?_ | refine OW.gF0 ?_ | refine OW.w (by constructor; omega; omega) ?_ | refine OW.decT (by omega) ?_ | refine OW.decF (by omega) ?_ | refine OW.dec (fun _ => ?_) (fun _ => ?_) | refine OW.p ?_ | refine OW.p0 ?_ | refine OW.ix (by constructor; omega; omega) ?_ | refine OW.ixA (by constructor; omega; omega) ?_ | refine OW.a (fun _ => ?_) | refine OW.u ?_ | refine thenK_n ?_ | refine thenK_ret ?_ | refine thenK_exit ?_ | refine blockK_n ?_ | refine blockK_ret ?_ | refine blockK_same ?_ | refine blockK_other ?_)
    refine OW.appendMake (by omega) (fun v' N' hrow => ?_)
    have s1 := hrow.sng
    repeat' (first | refine CW.seq ?_ | refine CW.block ?_ | refine CW.skip ?_ | refine CW.exit ?_ | refine CW.ret ?_ | refine CW.regionF (by kernel_rfl) ?_ | refine CW.condT ?_ | refine CW.condF ?_ | refine OW.skip (by rfl) (List.cons_ne_nil _ _) (fun _ => ?_) | refine OW.nil ?_ | refine OW.gT ?_ | refine OW.gF ?_ | refine OW.gF0 ?_ | refine OW.w (by constructor; omega; omega) ?_ | refine OW.decT (by omega) ?_ | refine OW.decF (by omega) ?_ | refine OW.dec (fun _ => ?_) (fun _ => ?_) | refine OW.p ?_ | refine OW.p0 ?_ | refine OW.ix (by constructor; omega; omega) ?_ | refine OW.ixA (by constructor; omega; omega) ?_ | refine OW.a (fun _ => ?_) | refine OW.u ?_ | refine thenK_n ?_ | refine thenK_ret ?_ | refine thenK_exit ?_ | refine blockK_n ?_ | refine blockK_ret ?_ | refine blockK_same ?_ | refine blockK_other ?_)
    refine OW.slHi hrow.rd ⟨by omega, by omega⟩ ?_
    have hr0 := hrow.sl0 (k := 0) (by omega)
    have s2 := hr0.sng
    repeat' (first | refine CW.seq ?_ | refine CW.block ?_ | refine CW.skip ?_ | refine CW.exit ?_ | refine CW.ret ?_ | refine CW.regionF (by kernel_rfl) ?_ | refine CW.condT ?_ | refine CW.condF ?_ | refine OW.skip (by rfl) (List.cons_ne_nil _ _) (fun _ => ?_) | refine OW.nil ?_ | refine OW.gT ?_ | refine OW.gF ?_ | refine OW.gF0 ?_ | refine OW.w (by constructor; omega; omega) ?_ | refine OW.decT (by omega) ?_ | refine OW.decF (by omega) ?_ | refine OW.dec (fun _ => ?_) (fun _ => ?_) | refine OW.p ?_ | refine OW.p0 ?_ | refine OW.ix (by constructor; omega; omega) ?_ | refine OW.ixA (by constructor; omega; omega) ?_ | refine OW.a (fun _ => ?_) | refine OW.u ?_ | refine thenK_n ?_ | refine thenK_ret ?_ | refine thenK_exit ?_ | refine blockK_n ?_ | refine blockK_ret ?_ | refine blockK_same ?_ | refine blockK_other ?_)
    exact bodyK.ret (Res.one Tryz.results74) ⟨N', rfl, by simpa using hr0⟩
  · repeat' (first | refine CW.seq ?_ | refine CW.block ?_ | refine CW.skip ?_ | refine CW.exit ?_ | refine CW.ret ?_ | refine CW.regionF (by kernel_rfl) ?_ | refine CW.condT ?_ | refine CW.condF ?_ | refine OW.skip (by rfl) (List.cons_ne_nil _ _) (fun _ => ?_) | refine OW.nil ?_ | refine OW.gT ?_ | refine OW.gF ?_ | refine OW.gF0 ?_ | refine OW.w (by constructor; omega; omega) ?_ | refine OW.decT (by omega) ?_ | refine OW.decF (by omega) ?_ | refine OW.dec (fun _ => ?_) (fun _ => ?_) | refine OW.p ?_ | refine OW.p0 ?_ | refine OW.ix (by constructor; omega; omega) ?_ | refine OW.ixA (by constructor; omega; omega) ?_ | refine OW.a (fun _ => ?_) | refine OW.u ?_ | refine thenK_n ?_ | refine thenK_ret ?_ | refine thenK_exit ?_ | refine blockK_n ?_ | refine blockK_ret ?_ | refine blockK_same ?_ | refine blockK_other ?_)
    exact bodyK.ret (Res.one Tryz.results74) ⟨[], rfl, Row.nil _ 1⟩

theorem concat (v : Value) (vs : List Value) (xss : List (List Int)) (L : Chunk) (hv : Rd L 1 v xss.length vs) (hvs : VS L vs xss) (hl : xss.flatten.length ≤ 900000) (hk : xss.length ≤ 1000) :
    Fn1 Tryz.prog 53 [v] L (fun u L' => ∃ N, L' = N ++ L ∧ Row 5 1 N u xss.flatten.length (bv xss.flatten)) := by
  intro w0; refine Spec.enter1 Tryz.func53 rfl Tryz.ntmps53 (by decide) ?_
  have hv0 := hv
  obtain ⟨va, vc, rfl, hvc⟩ := hv.isSlice
  repeat' (first | refine CW.seq ?_ | refine CW.block ?_ | refine CW.skip ?_ | refine CW.exit ?_ | refine CW.ret ?_ | refine CW.regionF (by kernel_rfl) ?_ | refine CW.condT ?_ | refine CW.condF ?_ | refine OW.skip (by rfl) (List.cons_ne_nil _ _) (fun _ => ?_) | refine OW.nil ?_ | refine OW.gT ?_ | refine OW.gF ?_ | refine OW.gF0 ?_ | refine OW.w (by constructor; omega; omega) ?_ | refine OW.decT (by omega) ?_ | refine OW.decF (by omega) ?_ | refine OW.dec (fun _ => ?_) (fun _ => ?_) | refine OW.p ?_ | refine OW.p0 ?_ | refine OW.ix (by constructor; omega; omega) ?_ | refine OW.ixA (by constructor; omega; omega) ?_ | refine OW.a (fun _ => ?_) | refine OW.u ?_ | refine thenK_n ?_ | refine thenK_ret ?_ | refine thenK_exit ?_ | refine blockK_n ?_ | refine blockK_ret ?_ | refine blockK_same ?_ | refine blockK_other ?_)
  refine CW.count xss.length (fun i ρ ds L' => ds = [] ∧ L' = L ∧ Ev ρ 0 (.slice va xss.length vc) ∧ Ev ρ 3 (.int .i64 (xss.take i).flatten.length) ∧ Ev ρ 9 (.slice va xss.length vc) ∧ Ev ρ 10 (.int .i64 xss.length) ∧ Ev ρ 11 (.int .i64 i)) ⟨rfl, rfl, inferInstance, by simp; infer_instance, inferInstance, inferInstance, inferInstance⟩ ?_
  rintro i ρ ds L' hi ⟨rfl, rfl, e0, e3, e9, e10, e11⟩
  by_cases hlt : i < xss.length
  · obtain ⟨b, k, cap, l, e, fr, hva, hin, hcap, hnth⟩ := hv0.open1 (by omega)
    cases hva
    obtain ⟨w, hw, hbw⟩ := hvs.get i hlt
    have hn := hnth i w hlt hw
    have h1 := flat_take_le xss (i + 1)
    rw [flat_take_succ xss hlt, List.length_append] at h1
    obtain ⟨wa, wc, rfl⟩ := hbw.slice
    repeat' (first | refine CW.seq ?_ | refine CW.block ?_ | refine CW.skip ?_ | refine CW.exit ?_ | refine CW.ret ?_ | refine CW.regionF (by kernel_rfl) ?_ | refine CW.condT ?_ | refine CW.condF ?_ | refine OW.skip (by rfl) (List.cons_ne_nil _ _) (fun _ => ?_) | refine OW.nil ?_ | refine OW.gT ?_ | refine OW.gF ?_ | refine OW.gF0 ?_ | refine OW.w (by constructor; omega; omega) ?_ | refine OW.decT (by omega) ?_ | refine OW.decF (by omega) ?_ | refine OW.dec (fun _ => ?_) (fun _ => ?_) | refine OW.p ?_ | refine OW.p0 ?_ | refine OW.ix (by constructor; omega; omega) ?_ | refine OW.ixA (by constructor; omega; omega) ?_ | refine OW.a (fun _ => ?_) | refine OW.u ?_ | refine thenK_n ?_ | refine thenK_ret ?_ | refine thenK_exit ?_ | refine blockK_n ?_ | refine blockK_ret ?_ | refine blockK_same ?_ | refine blockK_other ?_)
    refine ⟨hlt, rfl, rfl, inferInstance, ?_, inferInstance, inferInstance, inferInstance⟩
    rw [flat_take_succ xss hlt, List.length_append, Int.natCast_add]; infer_instance
  · obtain rfl : i = xss.length := by omega
    rw [List.take_length] at e3
    repeat' (first | refine CW.seq ?_ | refine CW.block ?_ | refine CW.skip ?_ | refine CW.exit ?_ | refine CW.ret ?_ | refine CW.regionF (by kernel_rfl) ?_ | refine CW.condT ?_ | refine CW.condF ?_ | refine OW.skip (by rfl) (List.cons_ne_nil _ _) (fun _ => ?_) | refine OW.nil ?_ | refine OW.gT ?_ | refine OW.gF ?_ | refine OW.gF0 ?_ | refine OW.w (by constructor; omega; omega) ?_ | refine OW.decT (by omega) ?_ | refine OW.decF (by omega) ?_ | refine OW.dec (fun _ => ?_) (fun _ => ?_) | refine OW.p ?_ | refine OW.p0 ?_ | refine OW.ix (by constructor; omega; omega) ?_ | refine OW.ixA (by constructor; omega; omega) ?_ | refine OW.a (fun _ => ?_) | refine OW.u ?_ | refine thenK_n ?_ | refine thenK_ret ?_ | refine thenK_exit ?_ | refine blockK_n ?_ | refine blockK_ret ?_ | refine blockK_same ?_ | refine blockK_other ?_)
    refine OW.call (grow _ (by omega) (by omega) _) ?_
    rintro u _ ⟨N0, rfl, hrow0⟩
    have s0 := hrow0.sng
    repeat' (first | refine CW.seq ?_ | refine CW.block ?_ | refine CW.skip ?_ | refine CW.exit ?_ | refine CW.ret ?_ | refine CW.regionF (by kernel_rfl) ?_ | refine CW.condT ?_ | refine CW.condF ?_ | refine OW.skip (by rfl) (List.cons_ne_nil _ _) (fun _ => ?_) | refine OW.nil ?_ | refine OW.gT ?_ | refine OW.gF ?_ | refine OW.gF0 ?_ | refine OW.w (by constructor; omega; omega) ?_ | refine OW.decT (by omega) ?_ | refine OW.decF (by omega) ?_ | refine OW.dec (fun _ => ?_) (fun _ => ?_) | refine OW.p ?_ | refine OW.p0 ?_ | refine OW.ix (by constructor; omega; omega) ?_ | refine OW.ixA (by constructor; omega; omega) ?_ | refine OW.a (fun _ => ?_) | refine OW.u ?_ | refine thenK_n ?_ | refine thenK_ret ?_ | refine thenK_exit ?_ | refine blockK_n ?_ | refine blockK_ret ?_ | refine blockK_same ?_ | refine blockK_other ?_)
    refine CW.count xss.length (fun i ρ ds L'' => ds = [] ∧ (∃ N u, L'' = N ++ L' ∧ Row 5 1 N u (xss.take i).flatten.length (bv (xss.take i).flatten) ∧ Ev ρ 6 u) ∧ Ev ρ 25 (.slice va xss.length vc) ∧ Ev ρ 26 (.int .i64 xss.length) ∧ Ev ρ 27 (.int .i64 i)) ⟨rfl, ⟨N0, u, rfl, by simpa [bv] using hrow0, inferInstance⟩, inferInstance, inferInstance, inferInstance⟩ ?_
    clear e0 e3 e9 e10 e11 hrow0 s0
    rintro i ρ ds L'' hi ⟨rfl, ⟨N, u, rfl, hrow, e6⟩, e25, e26, e27⟩
    have su := hrow.sng
    by_cases hlt : i < xss.length
    · obtain ⟨b, k, cap, l, e, fr, hva, hin, hcap, hnth⟩ := hv0.open1 (by omega)
      cases hva
      obtain ⟨w, hw, hbw⟩ := hvs.get i hlt
      have hn := hnth i w hlt hw
      have h1 := flat_take_le xss (i + 1)
      rw [flat_take_succ xss hlt, List.length_append] at h1
      have sw := hbw.sng
      repeat' (first | refine CW.seq ?_ | refine CW.block ?_ | refine CW.skip ?_ | refine CW.exit ?_ | refine CW.ret ?_ | refine CW.regionF (by kernel_rfl) ?_ | refine CW.condT ?_ | refine CW.condF ?_ | refine OW.skip (by rfl) (List.cons_ne_nil _ _) (fun _ => ?_) | refine OW.nil ?_ | refine OW.gT ?_ | refine OW.gF ?_ | refine OW.gF0 ?_ | refine OW.w (by constructor; omega; omega) ?_ | refine OW.decT (by omega) ?_ | refine OW.decF (by omega) ?_ | refine OW.dec (fun _ => ?_) (fun _ => ?_) | refine OW.p ?_ | refine OW.p0 ?_ | refine OW.ix (by constructor; omega; omega) ?_ | refine OW.ixA (by constructor; omega; omega) ?_ | refine OW.a (fun _ => ?_) | refine OW.u ?_ | refine thenK_n ?_ | refine thenK_ret ?_ | refine thenK_exit ?_ | refine blockK_n ?_ | refine blockK_ret ?_ | refine blockK_same ?_ | refine blockK_other ?_)
      refine OW.append hrow inferInstance hbw.to.rd (bv_sng _) (by omega) (fun v' N' hrow' => ?_)
      rw [← bv_app, ← flat_take_succ xss hlt] at hrow'
      have s1 := hrow'.sng
      repeat' (first | refine CW.seq ?_ | refine CW.block ?_ | refine CW.skip ?_ | refine CW.exit ?_ | refine CW.ret ?_ | refine CW.regionF (by kernel_rfl) ?_ | refine CW.condT ?_ | refine CW.condF ?_ | refine OW.skip (by rfl) (List.cons_ne_nil _ _) (fun _ => ?_) | refine OW.nil ?_ | refine OW.gT ?_ | refine OW.gF ?_ | refine OW.gF0 ?_ | refine OW.w (by constructor; omega; omega) ?_ | refine OW.decT (by omega) ?_ | refine OW.decF (by omega) ?_ | refine OW.dec (fun _ => ?_) (fun _ => ?_) | refine OW.p ?_ | refine OW.p0 ?_ | refine OW.ix (by constructor; omega; omega) ?_ | refine OW.ixA (by constructor; omega; omega) ?_ | refine OW.a (fun _ => ?_) | refine OW.u ?_ | refine thenK_n ?_ | refine thenK_ret ?_ | refine thenK_exit ?_ | refine blockK_n ?_ | refine blockK_ret ?_ | refine blockK_same ?_ | refine blockK_other ?_)
      exact ⟨hlt, rfl, ⟨N', v', rfl, by rw [show (xss.take (i + 1)).flatten.length = (xss.take i).flatten.length + xss[i].length by rw [flat_take_succ xss hlt, List.length_append]]; exact hrow', inferInstance⟩, inferInstance, inferInstance, inferInstance⟩
    · obtain rfl : i = xss.length := by omega
      rw [List.take_length] at hrow
      repeat' (first | refine CW.seq ?_ | refine CW.block ?_ | refine CW.skip ?_ | refine CW.exit ?_ | refine CW.ret ?_ | refine CW.regionF (by kernel_rfl) ?_ | refine CW.condT ?_ | refine CW.condF ?_ | refine OW.skip (by rfl) (List.cons_ne_nil _ _) (fun _ => ?_) | refine OW.nil ?_ | refine OW.gT ?_ | refine OW.gF ?_ | refine OW.gF0 ?_ | refine OW.w (by constructor; omega; omega) ?_ | refine OW.decT (by omega) ?_ | refine OW.decF (by omega) ?_ | refine OW.dec (fun _ => ?_) (fun _ => ?_) | refine OW.p ?_ | refine OW.p0 ?_ | refine OW.ix (by constructor; omega; omega) ?_ | refine OW.ixA (by constructor; omega; omega) ?_ | refine OW.a (fun _ => ?_) | refine OW.u ?_ | refine thenK_n ?_ | refine thenK_ret ?_ | refine thenK_exit ?_ | refine blockK_n ?_ | refine blockK_ret ?_ | refine blockK_same ?_ | refine blockK_other ?_)
      exact bodyK.ret (Res.one Tryz.results53) ⟨N, rfl, hrow⟩

/-- Are bytes the same? -/
theorem equalB (va vb : Value) (xs ys : List Int) (L : Chunk) (ha : BS L va xs) (hb : BS L vb ys) : Fn1 Tryz.prog 59 [va, vb] L (fun u L' => u = .bool (decide (xs = ys)) ∧ L = L') := by
  intro w0; refine Spec.enter2 Tryz.func59 rfl Tryz.ntmps59 (by decide) ?_
  have ha0 := ha
  have hb0 := hb
  have hla := ha.len
  have hlb := hb.len
  obtain ⟨aa, ac, rfl⟩ := ha.slice
  obtain ⟨ba, bc, rfl⟩ := hb.slice
  by_cases hlen : xs.length = ys.length
  · repeat' (first | refine CW.seq ?_ | refine CW.block ?_ | refine CW.skip ?_ | refine CW.exit ?_ | refine CW.ret ?_ | refine CW.regionF (by kernel_rfl) ?_ | refine CW.drawsT mixed (by kernel_rfl) ?_ | refine CW.condT ?_ | refine CW.condF ?_ | refine OW.skip (by rfl) (List.cons_ne_nil _ _) (fun _ => ?_) | refine OW.nil ?_ | refine OW.gT ?_ | refine OW.gF ?_ | refine OW.gF0 ?_ | refine OW.w (by constructor; omega; omega) ?_ | refine OW.decT (by omega) ?_ | refine OW.decF (by omega) ?_ | refine OW.dec (fun _ => ?_) (fun _ => ?_) | refine OW.p ?_ | refine OW.p0 ?_ | refine OW.ix (by constructor; omega; omega) ?_ | refine OW.ixA (by constructor; omega; omega) ?_ | refine OW.a (fun _ => ?_) | refine OW.u ?_ | refine RW.skip (by rfl) (List.cons_ne_nil _ _) (fun _ => ?_) | refine RW.nil ?_ | refine RW.gF ?_ | refine RW.gF0 ?_ | refine RW.w (by constructor; omega; omega) rfl ?_ | refine RW.decT (by omega) rfl ?_ | refine RW.decF (by omega) rfl ?_ | refine RW.dec rfl (fun _ => ?_) (fun _ => ?_) | refine RW.p rfl ?_ | refine RW.p0 rfl ?_ | refine RW.ix (by constructor; omega; omega) ?_ | refine RW.ixA (by constructor; omega; omega) ?_ | refine RW.a rfl (fun _ => ?_) | refine RW.u rfl ?_ | refine thenK_n ?_ | refine thenK_ret ?_ | refine thenK_exit ?_ | refine blockK_n ?_ | refine blockK_ret ?_ | refine blockK_same ?_ | refine blockK_other ?_)
    refine CW.count xs.length (fun i ρ ds L' => ds = [] ∧ L' = L ∧ xs.take i = ys.take i ∧ Ev ρ 0 (.slice aa xs.length ac) ∧ Ev ρ 1 (.slice ba ys.length bc) ∧ Ev ρ 12 (.int .i64 xs.length) ∧ Ev ρ 13 (.int .i64 i)) ⟨rfl, rfl, rfl, inferInstance, inferInstance, inferInstance, inferInstance⟩ ?_
    rintro i ρ ds L' hi ⟨rfl, rfl, htk, e0, e1, e12, e13⟩
    by_cases hlt : i < xs.length
    · obtain ⟨b, k, cap, l, e, fr, hva, hin, hcap, hnth⟩ := ha0.rd.open1 (by omega)
      cases hva
      obtain ⟨b', k', cap', l', e', fr', hvb, hin', hcap', hnth'⟩ := hb0.rd.open1 (by omega)
      cases hvb
      have hlt' : i < ys.length := by omega
      have hn := hnth i _ hlt (bv_get hlt)
      have hn' := hnth' i _ hlt' (bv_get hlt')
      by_cases he : xs[i] = ys[i]
      · repeat' (first | refine CW.seq ?_ | refine CW.block ?_ | refine CW.skip ?_ | refine CW.exit ?_ | refine CW.ret ?_ | refine CW.regionF (by kernel_rfl) ?_ | refine CW.drawsT mixed (by kernel_rfl) ?_ | refine CW.condT ?_ | refine CW.condF ?_ | refine OW.skip (by rfl) (List.cons_ne_nil _ _) (fun _ => ?_) | refine OW.nil ?_ | refine OW.gT ?_ | refine OW.gF ?_ | refine OW.gF0 ?_ | refine OW.w (by constructor; omega; omega) ?_ | refine OW.decT (by omega) ?_ | refine OW.decF (by omega) ?_ | refine OW.dec (fun _ => ?_) (fun _ => ?_) | refine OW.p ?_ | refine OW.p0 ?_ | refine OW.ix (by constructor; omega; omega) ?_ | refine OW.ixA (by constructor; omega; omega) ?_ | refine OW.a (fun _ => ?_) | refine OW.u ?_ | refine RW.skip (by rfl) (List.cons_ne_nil _ _) (fun _ => ?_) | refine RW.nil ?_ | refine RW.gF ?_ | refine RW.gF0 ?_ | refine RW.w (by constructor; omega; omega) rfl ?_ | refine RW.decT (by omega) rfl ?_ | refine RW.decF (by omega) rfl ?_ | refine RW.dec rfl (fun _ => ?_) (fun _ => ?_) | refine RW.p rfl ?_ | refine RW.p0 rfl ?_ | refine RW.ix (by constructor; omega; omega) ?_ | refine RW.ixA (by constructor; omega; omega) ?_ | refine RW.a rfl (fun _ => ?_) | refine RW.u rfl ?_ | refine thenK_n ?_ | refine thenK_ret ?_ | refine thenK_exit ?_ | refine blockK_n ?_ | refine blockK_ret ?_ | refine blockK_same ?_ | refine blockK_other ?_)
        refine ⟨hlt, rfl, rfl, ?_, inferInstance, inferInstance, inferInstance, inferInstance⟩
        rw [List.take_succ_eq_append_getElem hlt, List.take_succ_eq_append_getElem hlt', htk, he]
      · repeat' (first | refine CW.seq ?_ | refine CW.block ?_ | refine CW.skip ?_ | refine CW.exit ?_ | refine CW.ret ?_ | refine CW.regionF (by kernel_rfl) ?_ | refine CW.drawsT mixed (by kernel_rfl) ?_ | refine CW.condT ?_ | refine CW.condF ?_ | refine OW.skip (by rfl) (List.cons_ne_nil _ _) (fun _ => ?_) | refine OW.nil ?_ | refine OW.gT ?_ | refine OW.gF ?_ | refine OW.gF0 ?_ | refine OW.w (by constructor; omega; omega) ?_ | refine OW.decT (by omega) ?_ | refine OW.decF (by omega) ?_ | refine OW.dec (fun _ => ?_) (fun _ => ?_) | refine OW.p ?_ | refine OW.p0 ?_ | refine OW.ix (by constructor; omega; omega) ?_ | refine OW.ixA (by constructor; omega; omega) ?_ | refine OW.a (fun _ => ?_) | refine OW.u ?_ | refine RW.skip (by rfl) (List.cons_ne_nil _ _) (fun _ => ?_) | refine RW.nil ?_ | refine RW.gF ?_ | refine RW.gF0 ?_ | refine RW.w (by constructor; omega; omega) rfl ?_ | refine RW.decT (by omega) rfl ?_ | refine RW.decF (by omega) rfl ?_ | refine RW.dec rfl (fun _ => ?_) (fun _ => ?_) | refine RW.p rfl ?_ | refine RW.p0 rfl ?_ | refine RW.ix (by constructor; omega; omega) ?_ | refine RW.ixA (by constructor; omega; omega) ?_ | refine RW.a rfl (fun _ => ?_) | refine RW.u rfl ?_ | refine thenK_n ?_ | refine thenK_ret ?_ | refine thenK_exit ?_ | refine blockK_n ?_ | refine blockK_ret ?_ | refine blockK_same ?_ | refine blockK_other ?_)
        exact bodyK.ret (Res.one Tryz.results59) ⟨by rw [decide_eq_false (fun h => he (by subst h; rfl))], rfl⟩
    · obtain rfl : i = xs.length := by omega
      rw [List.take_length, hlen, List.take_length] at htk
      repeat' (first | refine CW.seq ?_ | refine CW.block ?_ | refine CW.skip ?_ | refine CW.exit ?_ | refine CW.ret ?_ | refine CW.regionF (by kernel_rfl) ?_ | refine CW.drawsT mixed (by kernel_rfl) ?_ | refine CW.condT ?_ | refine CW.condF ?_ | refine OW.skip (by rfl) (List.cons_ne_nil _ _) (fun _ => ?_) | refine OW.nil ?_ | refine OW.gT ?_ | refine OW.gF ?_ | refine OW.gF0 ?_ | refine OW.w (by constructor; omega; omega) ?_ | refine OW.decT (by omega) ?_ | refine OW.decF (by omega) ?_ | refine OW.dec (fun _ => ?_) (fun _ => ?_) | refine OW.p ?_ | refine OW.p0 ?_ | refine OW.ix (by constructor; omega; omega) ?_ | refine OW.ixA (by constructor; omega; omega) ?_ | refine OW.a (fun _ => ?_) | refine OW.u ?_ | refine RW.skip (by rfl) (List.cons_ne_nil _ _) (fun _ => ?_) | refine RW.nil ?_ | refine RW.gF ?_ | refine RW.gF0 ?_ | refine RW.w (by constructor; omega; omega) rfl ?_ | refine RW.decT (by omega) rfl ?_ | refine RW.decF (by omega) rfl ?_ | refine RW.dec rfl (fun _ => ?_) (fun _ => ?_) | refine RW.p rfl ?_ | refine RW.p0 rfl ?_ | refine RW.ix (by constructor; omega; omega) ?_ | refine RW.ixA (by constructor; omega; omega) ?_ | refine RW.a rfl (fun _ => ?_) | refine RW.u rfl ?_ | refine thenK_n ?_ | refine thenK_ret ?_ | refine thenK_exit ?_ | refine blockK_n ?_ | refine blockK_ret ?_ | refine blockK_same ?_ | refine blockK_other ?_)
      exact bodyK.ret (Res.one Tryz.results59) ⟨by rw [decide_eq_true htk], rfl⟩
  · repeat' (first | refine CW.seq ?_ | refine CW.block ?_ | refine CW.skip ?_ | refine CW.exit ?_ | refine CW.ret ?_ | refine CW.regionF (by kernel_rfl) ?_ | refine CW.drawsT mixed (by kernel_rfl) ?_ | refine CW.condT ?_ | refine CW.condF ?_ | refine OW.skip (by rfl) (List.cons_ne_nil _ _) (fun _ => ?_) | refine OW.nil ?_ | refine OW.gT ?_ | refine OW.gF ?_ | refine OW.gF0 ?_ | refine OW.w (by constructor; omega; omega) ?_ | refine OW.decT (by omega) ?_ | refine OW.decF (by omega) ?_ | refine OW.dec (fun _ => ?_) (fun _ => ?_) | refine OW.p ?_ | refine OW.p0 ?_ | refine OW.ix (by constructor; omega; omega) ?_ | refine OW.ixA (by constructor; omega; omega) ?_ | refine OW.a (fun _ => ?_) | refine OW.u ?_ | refine RW.skip (by rfl) (List.cons_ne_nil _ _) (fun _ => ?_) | refine RW.nil ?_ | refine RW.gF ?_ | refine RW.gF0 ?_ | refine RW.w (by constructor; omega; omega) rfl ?_ | refine RW.decT (by omega) rfl ?_ | refine RW.decF (by omega) rfl ?_ | refine RW.dec rfl (fun _ => ?_) (fun _ => ?_) | refine RW.p rfl ?_ | refine RW.p0 rfl ?_ | refine RW.ix (by constructor; omega; omega) ?_ | refine RW.ixA (by constructor; omega; omega) ?_ | refine RW.a rfl (fun _ => ?_) | refine RW.u rfl ?_ | refine thenK_n ?_ | refine thenK_ret ?_ | refine thenK_exit ?_ | refine blockK_n ?_ | refine blockK_ret ?_ | refine blockK_same ?_ | refine blockK_other ?_)
    exact bodyK.ret (Res.one Tryz.results59) ⟨by rw [decide_eq_false (fun h => hlen (by rw [h]))], rfl⟩
end Go.Proofs.YtlfdaepkoagnbaaGreat

namespace Go.Proofs.YtlfdaepkoagnbaaGreat
open Go Go.Pw Go.Pw.Sc
set_option maxRecDepth 100000
set_option maxHeartbeats 4000000
set_option synthInstance.maxHeartbeats 400000
set_option synthInstance.maxSize 2000
attribute [local irreducible] CW OW RW thenK blockK
attribute [local irreducible] scopeK loopK


theorem within1 (n : Int) (bo : Nat) (bound : Int) (L : Chunk) [hin : InC L bo (.cells #[.int .i64 bound] 3 (0, 0))] :
    Fn1 Tryz.prog 72 [.int .i64 n, .pointer (some ⟨bo, 0, none⟩)] L (fun u L' => u = .bool (decide (¬ InB n bound)) ∧ L = L') := by
  intro w0; refine Spec.enter2 Tryz.func72 rfl Tryz.ntmps72 (by decide) ?_
  have h0 := hin
  by_cases h1 : 0 ≤ n
  · by_cases h2 : n ≤ bound
    · repeat' (first | refine CW.seq ?_ | refine CW.block ?_ | refine CW.skip ?_ | refine CW.exit ?_ | refine CW.ret ?_ | refine CW.regionF (by kernel_rfl) ?_ | refine CW.condT ?_ | refine CW.condF ?_ | refine OW.skip (by rfl) (List.cons_ne_nil _ _) (fun _ => ?_) | refine OW.nil ?_ | refine OW.gT ?_ | refine OW.gF ?_ | refine OW.gF0 ?_ | refine OW.w (by constructor; omega; omega) ?_ | refine OW.decT (by omega) ?_ | refine OW.decF (by omega) ?_ | refine OW.dec (fun _ => ?_) (fun _ => ?_) | refine OW.p ?_ | refine OW.p0 ?_ | refine OW.ix (by constructor; omega; omega) ?_ | refine OW.ixA (by constructor; omega; omega) ?_ | refine OW.a (fun _ => ?_) | refine OW.u ?_ | refine thenK_n ?_ | refine thenK_ret ?_ | refine thenK_exit ?_ | refine blockK_n ?_ | refine blockK_ret ?_ | refine blockK_same ?_ | refine blockK_other ?_)
      exact bodyK.ret (Res.one Tryz.results72) ⟨by rw [decide_eq_false (p := ¬ InB n bound) (fun h => h ⟨h1, h2⟩)], rfl⟩
    · repeat' (first | refine CW.seq ?_ | refine CW.block ?_ | refine CW.skip ?_ | refine CW.exit ?_ | refine CW.ret ?_ | refine CW.regionF (by kernel_rfl) ?_ | refine CW.condT ?_ | refine CW.condF ?_ | refine OW.skip (by rfl) (List.cons_ne_nil _ _) (fun _ => ?_) | refine OW.nil ?_ | refine OW.gT ?_ | refine OW.gF ?_ | refine OW.gF0 ?_ | refine OW.w (by constructor; omega; omega) ?_ | refine OW.decT (by omega) ?_ | refine OW.decF (by omega) ?_ | refine OW.dec (fun _ => ?_) (fun _ => ?_) | refine OW.p ?_ | refine OW.p0 ?_ | refine OW.ix (by constructor; omega; omega) ?_ | refine OW.ixA (by constructor; omega; omega) ?_ | refine OW.a (fun _ => ?_) | refine OW.u ?_ | refine thenK_n ?_ | refine thenK_ret ?_ | refine thenK_exit ?_ | refine blockK_n ?_ | refine blockK_ret ?_ | refine blockK_same ?_ | refine blockK_other ?_)
      exact bodyK.ret (Res.one Tryz.results72) ⟨by rw [decide_eq_true (p := ¬ InB n bound) (fun h => h2 h.2)], rfl⟩
  · repeat' (first | refine CW.seq ?_ | refine CW.block ?_ | refine CW.skip ?_ | refine CW.exit ?_ | refine CW.ret ?_ | refine CW.regionF (by kernel_rfl) ?_ | refine CW.condT ?_ | refine CW.condF ?_ | refine OW.skip (by rfl) (List.cons_ne_nil _ _) (fun _ => ?_) | refine OW.nil ?_ | refine OW.gT ?_ | refine OW.gF ?_ | refine OW.gF0 ?_ | refine OW.w (by constructor; omega; omega) ?_ | refine OW.decT (by omega) ?_ | refine OW.decF (by omega) ?_ | refine OW.dec (fun _ => ?_) (fun _ => ?_) | refine OW.p ?_ | refine OW.p0 ?_ | refine OW.ix (by constructor; omega; omega) ?_ | refine OW.ixA (by constructor; omega; omega) ?_ | refine OW.a (fun _ => ?_) | refine OW.u ?_ | refine thenK_n ?_ | refine thenK_ret ?_ | refine thenK_exit ?_ | refine blockK_n ?_ | refine blockK_ret ?_ | refine blockK_same ?_ | refine blockK_other ?_)
    exact bodyK.ret (Res.one Tryz.results72) ⟨by rw [decide_eq_true (p := ¬ InB n bound) (fun h => h1 h.1)], rfl⟩

theorem indexFuncInt (xs : List Int) (p : Int → Bool) (v fv : Value) (L : Chunk) (h : Rd L 1 v xs.length (iv xs)) (hl : (xs.length : Int) ≤ 9223372036854775807) (hf : ∀ x ∈ xs, VP Tryz.prog fv [.int .i64 x] L (fun u L' => u = .bool (p x) ∧ L = L') noPanic) :
    Fn1 Tryz.prog 108 [v, fv] L (fun u L' => (∃ k, u = .int .i64 k ∧ (0 ≤ k ↔ ∃ x ∈ xs, p x = true)) ∧ L = L') := by
  intro w0; refine Spec.enter2 Tryz.func108 rfl Tryz.ntmps108 (by decide) ?_
  obtain ⟨a, c, rfl, hc⟩ := h.isSlice
  repeat' (first | refine CW.seq ?_ | refine CW.block ?_ | refine CW.skip ?_ | refine CW.exit ?_ | refine CW.ret ?_ | refine CW.regionF (by kernel_rfl) ?_ | refine CW.condT ?_ | refine CW.condF ?_ | refine OW.skip (by rfl) (List.cons_ne_nil _ _) (fun _ => ?_) | refine OW.nil ?_ | refine OW.gT ?_ | refine OW.gF ?_ | refine OW.gF0 ?_ | refine OW.w (by constructor; omega; omega) ?_ | refine OW.decT (by omega) ?_ | refine OW.decF (by omega) ?_ | refine OW.dec (fun _ => ?_) (fun _ => ?_) | refine OW.p ?_ | refine OW.p0 ?_ | refine OW.ix (by constructor; omega; omega) ?_ | refine OW.ixA (by constructor; omega; omega) ?_ | refine OW.a (fun _ => ?_) | refine OW.u ?_ | refine thenK_n ?_ | refine thenK_ret ?_ | refine thenK_exit ?_ | refine blockK_n ?_ | refine blockK_ret ?_ | refine blockK_same ?_ | refine blockK_other ?_)
  refine CW.count xs.length (fun i ρ ds L' => ds = [] ∧ L' = L ∧ (∀ x ∈ xs.take i, p x = false) ∧ Ev ρ 0 (.slice a xs.length c) ∧ Ev ρ 1 fv ∧ Ev ρ 7 (.int .i64 xs.length) ∧ Ev ρ 8 (.int .i64 i)) ⟨rfl, rfl, by simp, inferInstance, inferInstance, inferInstance, inferInstance⟩ ?_
  rintro i ρ ds L' hi ⟨rfl, rfl, hp, e0, e1, e7, e8⟩
  by_cases hlt : i < xs.length
  · obtain ⟨b, k, cap, l, e, fr, hv, hin, hcap, hnth⟩ := h.open1 (by omega)
    cases hv
    have hn := hnth i _ hlt (iv_get hlt)
    repeat' (first | refine CW.seq ?_ | refine CW.block ?_ | refine CW.skip ?_ | refine CW.exit ?_ | refine CW.ret ?_ | refine CW.regionF (by kernel_rfl) ?_ | refine CW.condT ?_ | refine CW.condF ?_ | refine OW.skip (by rfl) (List.cons_ne_nil _ _) (fun _ => ?_) | refine OW.nil ?_ | refine OW.gT ?_ | refine OW.gF ?_ | refine OW.gF0 ?_ | refine OW.w (by constructor; omega; omega) ?_ | refine OW.decT (by omega) ?_ | refine OW.decF (by omega) ?_ | refine OW.dec (fun _ => ?_) (fun _ => ?_) | refine OW.p ?_ | refine OW.p0 ?_ | refine OW.ix (by constructor; omega; omega) ?_ | refine OW.ixA (by constructor; omega; omega) ?_ | refine OW.a (fun _ => ?_) | refine OW.u ?_ | refine thenK_n ?_ | refine thenK_ret ?_ | refine thenK_exit ?_ | refine blockK_n ?_ | refine blockK_ret ?_ | refine blockK_same ?_ | refine blockK_other ?_)
    refine OW.callV1 (hf xs[i] (List.getElem_mem hlt)) ?_
    rintro _ _ ⟨rfl, rfl⟩
    cases hpx : p xs[i] with
    | true =>
      repeat' (first | refine CW.seq ?_ | refine CW.block ?_ | refine CW.skip ?_ | refine CW.exit ?_ | refine CW.ret ?_ | refine CW.regionF (by kernel_rfl) ?_ | refine CW.condT ?_ | refine CW.condF ?_ | refine OW.skip (by rfl) (List.cons_ne_nil _ _) (fun _ => ?_) | refine OW.nil ?_ | refine OW.gT ?_ | refine OW.gF ?_ | refine OW.gF0 ?_ | refine OW.w (by constructor; omega; omega) ?_ | refine OW.decT (by omega) ?_ | refine OW.decF (by omega) ?_ | refine OW.dec (fun _ => ?_) (fun _ => ?_) | refine OW.p ?_ | refine OW.p0 ?_ | refine OW.ix (by constructor; omega; omega) ?_ | refine OW.ixA (by constructor; omega; omega) ?_ | refine OW.a (fun _ => ?_) | refine OW.u ?_ | refine thenK_n ?_ | refine thenK_ret ?_ | refine thenK_exit ?_ | refine blockK_n ?_ | refine blockK_ret ?_ | refine blockK_same ?_ | refine blockK_other ?_)
      exact bodyK.ret (Res.one Tryz.results108) ⟨⟨i, rfl, fun _ => ⟨_, List.getElem_mem hlt, hpx⟩, fun _ => by omega⟩, rfl⟩
    | false =>
      repeat' (first | refine CW.seq ?_ | refine CW.block ?_ | refine CW.skip ?_ | refine CW.exit ?_ | refine CW.ret ?_ | refine CW.regionF (by kernel_rfl) ?_ | refine CW.condT ?_ | refine CW.condF ?_ | refine OW.skip (by rfl) (List.cons_ne_nil _ _) (fun _ => ?_) | refine OW.nil ?_ | refine OW.gT ?_ | refine OW.gF ?_ | refine OW.gF0 ?_ | refine OW.w (by constructor; omega; omega) ?_ | refine OW.decT (by omega) ?_ | refine OW.decF (by omega) ?_ | refine OW.dec (fun _ => ?_) (fun _ => ?_) | refine OW.p ?_ | refine OW.p0 ?_ | refine OW.ix (by constructor; omega; omega) ?_ | refine OW.ixA (by constructor; omega; omega) ?_ | refine OW.a (fun _ => ?_) | refine OW.u ?_ | refine thenK_n ?_ | refine thenK_ret ?_ | refine thenK_exit ?_ | refine blockK_n ?_ | refine blockK_ret ?_ | refine blockK_same ?_ | refine blockK_other ?_)
      refine ⟨hlt, rfl, rfl, ?_, inferInstance, inferInstance, inferInstance, inferInstance⟩
      rw [List.take_succ_eq_append_getElem hlt]
      intro x hx
      rcases List.mem_append.1 hx with hx | hx
      · exact hp x hx
      · rw [List.mem_singleton.1 hx]; exact hpx
  · obtain rfl : i = xs.length := by omega
    rw [List.take_length] at hp
    repeat' (first | refine CW.seq ?_ | refine CW.block ?_ | refine CW.skip ?_ | refine CW.exit ?_ | refine CW.ret ?_ | refine CW.regionF (by kernel_rfl) ?_ | refine CW.condT ?_ | refine CW.condF ?_ | refine OW.skip (by rfl) (List.cons_ne_nil _ _) (fun _ => ?_) | refine OW.nil ?_ | refine OW.gT ?_ | refine OW.gF ?_ | refine OW.gF0 ?_ | refine OW.w (by constructor; omega; omega) ?_ | refine OW.decT (by omega) ?_ | refine OW.decF (by omega) ?_ | refine OW.dec (fun _ => ?_) (fun _ => ?_) | refine OW.p ?_ | refine OW.p0 ?_ | refine OW.ix (by constructor; omega; omega) ?_ | refine OW.ixA (by constructor; omega; omega) ?_ | refine OW.a (fun _ => ?_) | refine OW.u ?_ | refine thenK_n ?_ | refine thenK_ret ?_ | refine thenK_exit ?_ | refine blockK_n ?_ | refine blockK_ret ?_ | refine blockK_same ?_ | refine blockK_other ?_)
    exact bodyK.ret (Res.one Tryz.results108) ⟨⟨-1, rfl, fun h => absurd h (by decide), fun ⟨x, hx, hpx⟩ => by rw [hp x hx] at hpx; cases hpx⟩, rfl⟩

theorem containsFuncInt (xs : List Int) (p : Int → Bool) (v fv : Value) (L : Chunk) (h : Rd L 1 v xs.length (iv xs)) (hl : (xs.length : Int) ≤ 9223372036854775807) (hf : ∀ x ∈ xs, VP Tryz.prog fv [.int .i64 x] L (fun u L' => u = .bool (p x) ∧ L = L') noPanic) :
    Fn1 Tryz.prog 71 [v, fv] L (fun u L' => u = .bool (decide (∃ x ∈ xs, p x = true)) ∧ L = L') := by
  intro w0; refine Spec.enter2 Tryz.func71 rfl Tryz.ntmps71 (by decide) ?_
  repeat' (first | refine CW.seq ?_ | refine CW.block ?_ | refine CW.skip ?_ | refine CW.exit ?_ | refine CW.ret ?_ | refine CW.regionF (by kernel_rfl) ?_ | refine CW.condT ?_ | refine CW.condF ?_ | refine OW.skip (by rfl) (List.cons_ne_nil _ _) (fun _ => ?_) | refine OW.nil ?_ | refine OW.gT ?_ | refine OW.gF ?_ | refine OW.gF0 ?_ | refine OW.w (by constructor; omega; omega) ?_ | refine OW.decT (by omega) ?_ | refine OW.decF (by omega) ?_ | refine OW.dec (fun _ => ?_) (fun _ => ?_) | refine OW.p ?_ | refine OW.p0 ?_ | refine OW.ix (by constructor; omega; omega) ?_ | refine OW.ixA (by constructor; omega; omega) ?_ | refine OW.a (fun _ => ?_) | refine OW.u ?_ | refine thenK_n ?_ | refine thenK_ret ?_ | refine thenK_exit ?_ | refine blockK_n ?_ | refine blockK_ret ?_ | refine blockK_same ?_ | refine blockK_other ?_)
  refine OW.call (indexFuncInt xs p v fv L h hl hf) ?_
  rintro u L' ⟨⟨k, rfl, hk⟩, rfl⟩
  repeat' (first | refine CW.seq ?_ | refine CW.block ?_ | refine CW.skip ?_ | refine CW.exit ?_ | refine CW.ret ?_ | refine CW.regionF (by kernel_rfl) ?_ | refine CW.condT ?_ | refine CW.condF ?_ | refine OW.skip (by rfl) (List.cons_ne_nil _ _) (fun _ => ?_) | refine OW.nil ?_ | refine OW.gT ?_ | refine OW.gF ?_ | refine OW.gF0 ?_ | refine OW.w (by constructor; omega; omega) ?_ | refine OW.decT (by omega) ?_ | refine OW.decF (by omega) ?_ | refine OW.dec (fun _ => ?_) (fun _ => ?_) | refine OW.p ?_ | refine OW.p0 ?_ | refine OW.ix (by constructor; omega; omega) ?_ | refine OW.ixA (by constructor; omega; omega) ?_ | refine OW.a (fun _ => ?_) | refine OW.u ?_ | refine thenK_n ?_ | refine thenK_ret ?_ | refine thenK_exit ?_ | refine blockK_n ?_ | refine blockK_ret ?_ | refine blockK_same ?_ | refine blockK_other ?_)
  all_goals refine bodyK.ret (Res.one Tryz.results71) ⟨congrArg Value.bool ?_, rfl⟩
  · exact (decide_eq_true (hk.1 (by assumption))).symm
  · exact (decide_eq_false (fun h => absurd (hk.2 h) (by assumption))).symm

theorem within (bound : Int) (xs : List Int) (v : Value) (L : Chunk) (h : Rd L 1 v xs.length (iv xs)) (hl : (xs.length : Int) ≤ 9223372036854775807) :
    Fn1 Tryz.prog 49 [.int .i64 bound, v] L (fun u L' => u = .bool (decide (∀ x ∈ xs, InB x bound)) ∧ L = L') := by
  intro w0; refine Spec.enter2 Tryz.func49 rfl Tryz.ntmps49 (by decide) ?_
  repeat' (first | refine CW.seq ?_ | refine CW.block ?_ | refine CW.skip ?_ | refine CW.exit ?_ | refine CW.ret ?_ | refine CW.regionF (by kernel_rfl) ?_ | refine CW.condT ?_ | refine CW.condF ?_ | refine OW.skip (by rfl) (List.cons_ne_nil _ _) (fun _ => ?_) | refine OW.nil ?_ | refine OW.gT ?_ | refine OW.gF ?_ | refine OW.gF0 ?_ | refine OW.w (by constructor; omega; omega) ?_ | refine OW.decT (by omega) ?_ | refine OW.decF (by omega) ?_ | refine OW.dec (fun _ => ?_) (fun _ => ?_) | refine OW.p ?_ | refine OW.p0 ?_ | refine OW.ix (by constructor; omega; omega) ?_ | refine OW.ixA (by constructor; omega; omega) ?_ | refine OW.a (fun _ => ?_) | refine OW.u ?_ | refine thenK_n ?_ | refine thenK_ret ?_ | refine thenK_exit ?_ | refine blockK_n ?_ | refine blockK_ret ?_ | refine blockK_same ?_ | refine blockK_other ?_)
  rename_i bo
  refine OW.call (containsFuncInt xs (fun n => decide (¬ InB n bound)) v _ _ h.to hl (fun x _ => FnP.vp (first := #[]) (cap := #[.pointer (some ⟨bo, 0, none⟩)]) (within1 x bo bound _))) ?_
  rintro u L' ⟨rfl, rfl⟩
  repeat' (first | refine CW.seq ?_ | refine CW.block ?_ | refine CW.skip ?_ | refine CW.exit ?_ | refine CW.ret ?_ | refine CW.regionF (by kernel_rfl) ?_ | refine CW.condT ?_ | refine CW.condF ?_ | refine OW.skip (by rfl) (List.cons_ne_nil _ _) (fun _ => ?_) | refine OW.nil ?_ | refine OW.gT ?_ | refine OW.gF ?_ | refine OW.gF0 ?_ | refine OW.w (by constructor; omega; omega) ?_ | refine OW.decT (by omega) ?_ | refine OW.decF (by omega) ?_ | refine OW.dec (fun _ => ?_) (fun _ => ?_) | refine OW.p ?_ | refine OW.p0 ?_ | refine OW.ix (by constructor; omega; omega) ?_ | refine OW.ixA (by constructor; omega; omega) ?_ | refine OW.a (fun _ => ?_) | refine OW.u ?_ | refine thenK_n ?_ | refine thenK_ret ?_ | refine thenK_exit ?_ | refine blockK_n ?_ | refine blockK_ret ?_ | refine blockK_same ?_ | refine blockK_other ?_)
  refine bodyK.retD L (Res.one Tryz.results49) ⟨congrArg Value.bool ?_, rfl⟩
  by_cases hall : ∀ x ∈ xs, InB x bound
  · rw [decide_eq_true hall, decide_eq_false]
    · rfl
    · rintro ⟨x, hx, hn⟩
      exact (of_decide_eq_true hn) (hall x hx)
  · rw [decide_eq_false hall, decide_eq_true]
    · rfl
    · apply Classical.byContradiction
      intro hno
      exact hall fun x hx => Classical.byContradiction fun hn => hno ⟨x, hx, decide_eq_true hn⟩
end Go.Proofs.YtlfdaepkoagnbaaGreat

namespace Go.Proofs.YtlfdaepkoagnbaaGreat
open Go Go.Pw Go.Pw.Sc
set_option maxRecDepth 100000
set_option maxHeartbeats 4000000
set_option synthInstance.maxHeartbeats 400000
set_option synthInstance.maxSize 2000
attribute [local irreducible] CW OW RW thenK blockK
attribute [local irreducible] scopeK loopK



theorem bare_created (t : Turn) (vb vd : Value) [sb : Sng vb] [sd : Sng vd] (bo : Nat) (o0 o1 o2 o3 o4 o5 o6 o7 o8 o9 o10 o11 o12 : Value) (L : Chunk) {C : Chunk → Chunk} [hat : At L [(bo, .cells #[o0, o1, o2, o3, o4, o5, o6, o7, o8, o9, o10, o11, o12] 47 (0, 0))] C] :
    Fn1 Tryz.prog 86 [.agg (tcells t vb vd).toArray, .pointer (some ⟨bo, 0, none⟩)] L (fun _ L' => L' = C [(bo, .cells #[o0, .int .i64 t.slot, .int .i64 t.quota, o3, o4, o5, o6, o7, o8, o9, o10, o11, o12] 47 (0, 0))]) := by
  intro w0; refine Spec.enter2 Tryz.func86 rfl Tryz.ntmps86 (by decide) ?_
  obtain ⟨A, B, rfl, hC⟩ := hat.out
  simp only [hC]
  clear hC hat
  repeat' (first | refine CW.seq ?_ | refine CW.block ?_ | refine CW.skip ?_ | refine CW.exit ?_ | refine CW.ret ?_ | refine CW.regionF (by kernel_rfl) ?_ | refine CW.condT ?_ | refine CW.condF ?_ | refine OW.skip (by rfl) (List.cons_ne_nil _ _) (fun _ => ?_) | refine OW.nil ?_ | refine OW.gT ?_ | refine OW.gF ?_ | refine OW.gF0 ?_ | refine OW.w (by constructor; omega; omega) ?_ | refine OW.decT (by omega) ?_ | refine OW.decF (by omega) ?_ | refine OW.dec (fun _ => ?_) (fun _ => ?_) | refine OW.p ?_ | refine OW.p0 ?_ | refine OW.ix (by constructor; omega; omega) ?_ | refine OW.ixA (by constructor; omega; omega) ?_ | refine OW.a (fun _ => ?_) | refine OW.u ?_ | refine RW.skip (by rfl) (List.cons_ne_nil _ _) (fun _ => ?_) | refine RW.nil ?_ | refine RW.gF ?_ | refine RW.gF0 ?_ | refine RW.w (by constructor; omega; omega) rfl ?_ | refine RW.decT (by omega) rfl ?_ | refine RW.decF (by omega) rfl ?_ | refine RW.dec rfl (fun _ => ?_) (fun _ => ?_) | refine RW.p rfl ?_ | refine RW.p0 rfl ?_ | refine RW.ix (by constructor; omega; omega) ?_ | refine RW.ixA (by constructor; omega; omega) ?_ | refine RW.a rfl (fun _ => ?_) | refine RW.u rfl ?_ | refine thenK_n ?_ | refine thenK_ret ?_ | refine thenK_exit ?_ | refine blockK_n ?_ | refine blockK_ret ?_ | refine blockK_same ?_ | refine blockK_other ?_)
  rename_i bx
  refine CW.drawsR ([(bx, .cells (tcells t vb vd).toArray 47 (0, 0))]) [0, 1, 2, 3, 4, 5, 6, 7, 8, 9, 10, 11] mixed (by kernel_rfl) ?_
  repeat' (first | refine CW.seq ?_ | refine CW.block ?_ | refine CW.skip ?_ | refine CW.exit ?_ | refine CW.ret ?_ | refine CW.regionF (by kernel_rfl) ?_ | refine CW.drawsT mixed (by kernel_rfl) ?_ | refine CW.condT ?_ | refine CW.condF ?_ | refine OW.skip (by rfl) (List.cons_ne_nil _ _) (fun _ => ?_) | refine OW.nil ?_ | refine OW.gT ?_ | refine OW.gF ?_ | refine OW.gF0 ?_ | refine OW.w (by constructor; omega; omega) ?_ | refine OW.decT (by omega) ?_ | refine OW.decF (by omega) ?_ | refine OW.dec (fun _ => ?_) (fun _ => ?_) | refine OW.p ?_ | refine OW.p0 ?_ | refine OW.ix (by constructor; omega; omega) ?_ | refine OW.ixA (by constructor; omega; omega) ?_ | refine OW.a (fun _ => ?_) | refine OW.u ?_ | refine RW.skip (by rfl) (List.cons_ne_nil _ _) (fun _ => ?_) | refine RW.nil ?_ | refine RW.gF ?_ | refine RW.gF0 ?_ | refine RW.w (by constructor; omega; omega) rfl ?_ | refine RW.decT (by omega) rfl ?_ | refine RW.decF (by omega) rfl ?_ | refine RW.dec rfl (fun _ => ?_) (fun _ => ?_) | refine RW.p rfl ?_ | refine RW.p0 rfl ?_ | refine RW.ix (by constructor; omega; omega) ?_ | refine RW.ixA (by constructor; omega; omega) ?_ | refine RW.a rfl (fun _ => ?_) | refine RW.u rfl ?_ | refine thenK_n ?_ | refine thenK_ret ?_ | refine thenK_exit ?_ | refine blockK_n ?_ | refine blockK_ret ?_ | refine blockK_same ?_ | refine blockK_other ?_)
  exact bodyK.nrmD (A ++ [(bo, .cells #[o0, .int .i64 t.slot, .int .i64 t.quota, o3, o4, o5, o6, o7, o8, o9, o10, o11, o12] 47 (0, 0))] ++ B) (Res.zero Tryz.results86) rfl

theorem bare_thread (t : Turn) (vb vd : Value) [sb : Sng vb] [sd : Sng vd] (bo : Nat) (o0 o1 o2 o3 o4 o5 o6 o7 o8 o9 o10 o11 o12 : Value) (L : Chunk) {C : Chunk → Chunk} [hat : At L [(bo, .cells #[o0, o1, o2, o3, o4, o5, o6, o7, o8, o9, o10, o11, o12] 47 (0, 0))] C] :
    Fn1 Tryz.prog 94 [.agg (tcells t vb vd).toArray, .pointer (some ⟨bo, 0, none⟩)] L (fun _ L' => L' = C [(bo, .cells #[o0, o1, o2, .int .i64 t.thread, o4, o5, o6, o7, o8, o9, o10, o11, o12] 47 (0, 0))]) := by
  intro w0; refine Spec.enter2 Tryz.func94 rfl Tryz.ntmps94 (by decide) ?_
  obtain ⟨A, B, rfl, hC⟩ := hat.out
  simp only [hC]
  clear hC hat
  repeat' (first | refine CW.seq ?_ | refine CW.block ?_ | refine CW.skip ?_ | refine CW.exit ?_ | refine CW.ret ?_ | refine CW.regionF (by kernel_rfl) ?_ | refine CW.condT ?_ | refine CW.condF ?_ | refine OW.skip (by rfl) (List.cons_ne_nil _ _) (fun _ => ?_) | refine OW.nil ?_ | refine OW.gT ?_ | refine OW.gF ?_ | refine OW.gF0 ?_ | refine OW.w (by constructor; omega; omega) ?_ | refine OW.decT (by omega) ?_ | refine OW.decF (by omega) ?_ | refine OW.dec (fun _ => ?_) (fun _ => ?_) | refine OW.p ?_ | refine OW.p0 ?_ | refine OW.ix (by constructor; omega; omega) ?_ | refine OW.ixA (by constructor; omega; omega) ?_ | refine OW.a (fun _ => ?_) | refine OW.u ?_ | refine thenK_n ?_ | refine thenK_ret ?_ | refine thenK_exit ?_ | refine blockK_n ?_ | refine blockK_ret ?_ | refine blockK_same ?_ | refine blockK_other ?_)
  exact bodyK.nrmD (A ++ [(bo, .cells #[o0, o1, o2, .int .i64 t.thread, o4, o5, o6, o7, o8, o9, o10, o11, o12] 47 (0, 0))] ++ B) (Res.zero Tryz.results94) rfl

theorem bare_handle (t : Turn) (vb vd : Value) [sb : Sng vb] [sd : Sng vd] (bo : Nat) (o0 o1 o2 o3 o4 o5 o6 o7 o8 o9 o10 o11 o12 : Value) (L : Chunk) {C : Chunk → Chunk} [hat : At L [(bo, .cells #[o0, o1, o2, o3, o4, o5, o6, o7, o8, o9, o10, o11, o12] 47 (0, 0))] C] :
    Fn1 Tryz.prog 90 [.agg (tcells t vb vd).toArray, .pointer (some ⟨bo, 0, none⟩)] L (fun _ L' => L' = C [(bo, .cells #[o0, o1, o2, o3, .int .i64 t.hslot, .int .i64 t.hgen, o6, o7, o8, o9, o10, o11, o12] 47 (0, 0))]) := by
  intro w0; refine Spec.enter2 Tryz.func90 rfl Tryz.ntmps90 (by decide) ?_
  obtain ⟨A, B, rfl, hC⟩ := hat.out
  simp only [hC]
  clear hC hat
  repeat' (first | refine CW.seq ?_ | refine CW.block ?_ | refine CW.skip ?_ | refine CW.exit ?_ | refine CW.ret ?_ | refine CW.regionF (by kernel_rfl) ?_ | refine CW.condT ?_ | refine CW.condF ?_ | refine OW.skip (by rfl) (List.cons_ne_nil _ _) (fun _ => ?_) | refine OW.nil ?_ | refine OW.gT ?_ | refine OW.gF ?_ | refine OW.gF0 ?_ | refine OW.w (by constructor; omega; omega) ?_ | refine OW.decT (by omega) ?_ | refine OW.decF (by omega) ?_ | refine OW.dec (fun _ => ?_) (fun _ => ?_) | refine OW.p ?_ | refine OW.p0 ?_ | refine OW.ix (by constructor; omega; omega) ?_ | refine OW.ixA (by constructor; omega; omega) ?_ | refine OW.a (fun _ => ?_) | refine OW.u ?_ | refine thenK_n ?_ | refine thenK_ret ?_ | refine thenK_exit ?_ | refine blockK_n ?_ | refine blockK_ret ?_ | refine blockK_same ?_ | refine blockK_other ?_)
  exact bodyK.nrmD (A ++ [(bo, .cells #[o0, o1, o2, o3, .int .i64 t.hslot, .int .i64 t.hgen, o6, o7, o8, o9, o10, o11, o12] 47 (0, 0))] ++ B) (Res.zero Tryz.results90) rfl

theorem bare_call (t : Turn) (vb vd : Value) [sb : Sng vb] [sd : Sng vd] (bo : Nat) (o0 o1 o2 o3 o4 o5 o6 o7 o8 o9 o10 o11 o12 : Value) (L : Chunk) {C : Chunk → Chunk} [hat : At L [(bo, .cells #[o0, o1, o2, o3, o4, o5, o6, o7, o8, o9, o10, o11, o12] 47 (0, 0))] C] :
    Fn1 Tryz.prog 100 [.agg (tcells t vb vd).toArray, .pointer (some ⟨bo, 0, none⟩)] L (fun _ L' => L' = C [(bo, .cells #[o0, o1, o2, o3, o4, o5, .int .i64 t.okind, .int .u32 t.oat, .int .u64 t.osize, .int .u64 t.omult, .int .u64 t.omany, vb, o12] 47 (0, 0))]) := by
  intro w0; refine Spec.enter2 Tryz.func100 rfl Tryz.ntmps100 (by decide) ?_
  obtain ⟨A, B, rfl, hC⟩ := hat.out
  simp only [hC]
  clear hC hat
  repeat' (first | refine CW.seq ?_ | refine CW.block ?_ | refine CW.skip ?_ | refine CW.exit ?_ | refine CW.ret ?_ | refine CW.regionF (by kernel_rfl) ?_ | refine CW.condT ?_ | refine CW.condF ?_ | refine OW.skip (by rfl) (List.cons_ne_nil _ _) (fun _ => ?_) | refine OW.nil ?_ | refine OW.gT ?_ | refine OW.gF ?_ | refine OW.gF0 ?_ | refine OW.w (by constructor; omega; omega) ?_ | refine OW.decT (by omega) ?_ | refine OW.decF (by omega) ?_ | refine OW.dec (fun _ => ?_) (fun _ => ?_) | refine OW.p ?_ | refine OW.p0 ?_ | refine OW.ix (by constructor; omega; omega) ?_ | refine OW.ixA (by constructor; omega; omega) ?_ | refine OW.a (fun _ => ?_) | refine OW.u ?_ | refine thenK_n ?_ | refine thenK_ret ?_ | refine thenK_exit ?_ | refine blockK_n ?_ | refine blockK_ret ?_ | refine blockK_same ?_ | refine blockK_other ?_)
  exact bodyK.nrmD (A ++ [(bo, .cells #[o0, o1, o2, o3, o4, o5, .int .i64 t.okind, .int .u32 t.oat, .int .u64 t.osize, .int .u64 t.omult, .int .u64 t.omany, vb, o12] 47 (0, 0))] ++ B) (Res.zero Tryz.results100) rfl

theorem bare_draws (t : Turn) (vb vd : Value) [sb : Sng vb] [sd : Sng vd] (bo : Nat) (o0 o1 o2 o3 o4 o5 o6 o7 o8 o9 o10 o11 o12 : Value) (L : Chunk) {C : Chunk → Chunk} [hat : At L [(bo, .cells #[o0, o1, o2, o3, o4, o5, o6, o7, o8, o9, o10, o11, o12] 47 (0, 0))] C] :
    Fn1 Tryz.prog 104 [.agg (tcells t vb vd).toArray, .pointer (some ⟨bo, 0, none⟩)] L (fun _ L' => L' = C [(bo, .cells #[o0, o1, o2, o3, o4, o5, o6, o7, o8, o9, o10, o11, vd] 47 (0, 0))]) := by
  intro w0; refine Spec.enter2 Tryz.func104 rfl Tryz.ntmps104 (by decide) ?_
  obtain ⟨A, B, rfl, hC⟩ := hat.out
  simp only [hC]
  clear hC hat
  repeat' (first | refine CW.seq ?_ | refine CW.block ?_ | refine CW.skip ?_ | refine CW.exit ?_ | refine CW.ret ?_ | refine CW.regionF (by kernel_rfl) ?_ | refine CW.condT ?_ | refine CW.condF ?_ | refine OW.skip (by rfl) (List.cons_ne_nil _ _) (fun _ => ?_) | refine OW.nil ?_ | refine OW.gT ?_ | refine OW.gF ?_ | refine OW.gF0 ?_ | refine OW.w (by constructor; omega; omega) ?_ | refine OW.decT (by omega) ?_ | refine OW.decF (by omega) ?_ | refine OW.dec (fun _ => ?_) (fun _ => ?_) | refine OW.p ?_ | refine OW.p0 ?_ | refine OW.ix (by constructor; omega; omega) ?_ | refine OW.ixA (by constructor; omega; omega) ?_ | refine OW.a (fun _ => ?_) | refine OW.u ?_ | refine thenK_n ?_ | refine thenK_ret ?_ | refine thenK_exit ?_ | refine blockK_n ?_ | refine blockK_ret ?_ | refine blockK_same ?_ | refine blockK_other ?_)
  exact bodyK.nrmD (A ++ [(bo, .cells #[o0, o1, o2, o3, o4, o5, o6, o7, o8, o9, o10, o11, vd] 47 (0, 0))] ++ B) (Res.zero Tryz.results104) rfl
end Go.Proofs.YtlfdaepkoagnbaaGreat
