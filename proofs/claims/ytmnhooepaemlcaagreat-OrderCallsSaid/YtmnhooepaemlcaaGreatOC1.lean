/-
  For every input the law OrderCalls returns true, and each argument reads behind the call as it read before. This text holds lemmas for it (part 1).
  Conditions: none.
-/
import Derived.CallsIn
import Derived.OrdersIn
import Derived.TacticsIn
import Derived.RangeFuncLeaves
import Derived.KernelRfl
import Derived.Laws.Sem
import Derived.Laws.World
import Derived.Laws.Cells
import Derived.IntWalk
import Derived.Laws.AppendOwn
import Derived.RangeFuncRecord
import Derived.RecoverIn
import Derived.Laws.BytesString
import Derived.Laws.StructEq
import Derived.WideLaws
set_option linter.all false
namespace Go.Pw
abbrev ii.{u} := @inferInstance.{u}
abbrev Chunk := List (Nat × Obj)
abbrev Env := Nat → Value
def fence (rd : Option Nat) : Fence := { Fence.wide with round := rd }
theorem fence_fn (rd : Option Nat) (f : FuncId) : (fence rd).fn f := trivial
theorem fence_depth (rd : Option Nat) : (fence rd).depth = none := rfl
theorem fence_round (rd : Option Nat) : (fence rd).round = rd := rfl
theorem isSome_depth (rd : Option Nat) {p : Prop} : ((fence rd).depth.isSome = true → p) := fun h => by simp [fence_depth] at h
def Pn (w : World) (L : Chunk) : Prop := ∀ b o, (b, o) ∈ L → w.heap[b]? = some o
structure St (w0 w : World) (L : Chunk) : Prop where
 os : w.os = w0.os
 out : w.output = w0.output
 nodup : (L.map Prod.fst).Nodup
 pn : Pn w L
theorem Pn.sub {w : World} {L R : Chunk} (h : Pn w L) (hs : ∀ p ∈ R, p ∈ L) : Pn w R := fun b o hb => h b o (hs _ hb)
structure Rep (n : Nat) (a : Act) (ρ : Env) (ds : List Deferred) : Prop where
 size : a.tmps.size = n
 get : ∀ t, a.tmps.getD t undef = ρ t
 ds : a.defers = ds
def upd (ρ : Env) (d : Nat) (v : Value) : Env := fun t => if t = d then v else ρ t
def updO (ρ : Env) : Option Nat → Value → Env
 | some d, v => upd ρ d v
 | none, _ => ρ
theorem updO_none (ρ : Env) (v : Value) : updO ρ none v = ρ := rfl
theorem upd_same (ρ : Env) (d : Nat) (v : Value) : upd ρ d v d = v := by simp [upd]
theorem upd_ne (ρ : Env) {d t : Nat} (v : Value) (h : t ≠ d) : upd ρ d v t = ρ t := by simp [upd, h]
def und : Env := fun _ => undef
def ev (ρ : Env) : Operand → Value
 | .tmp t => ρ t
 | .const v => v
 | .global g => .pointer (some ⟨g, 0, none⟩)
 | .func f => .func (.func f) #[] #[]
theorem Rep.eval {n : Nat} {a : Act} {ρ : Env} {ds : List Deferred} (h : Rep n a ρ ds) : a.eval = ev ρ := by
 funext x
 cases x <;> simp only [Act.eval, ev]
 exact h.get _
theorem Rep.put {n : Nat} {a : Act} {ρ : Env} {ds : List Deferred} (h : Rep n a ρ ds) {d : Option Nat} (hd : d.all (· < n) = true) (v : Value) : Rep n (a.put d v) (updO ρ d v) ds := by
 cases d with
 | none => exact h
 | some d =>
  simp at hd
  refine ⟨by simp [Act.put, h.size], fun t => ?_, by simp [Act.put, h.ds]⟩
  simp only [Act.put, updO, upd]
  have hg := h.get t
  by_cases e : t = d
  ·subst e
   simp [h.size, hd]
  ·simp only [e, if_false]
   rw [← hg]
   simp [Array.getElem?_setIfInBounds_ne (Ne.symm e)]
theorem Rep.some {n : Nat} {a : Act} {ds : List Deferred} (h1 : a.tmps.size = n) (h2 : a.defers = ds) : Rep n a (fun t => a.tmps.getD t undef) ds := ⟨h1, fun _ => rfl, h2⟩
theorem size_put (a : Act) (d : Option Nat) (v : Value) : (a.put d v).tmps.size = a.tmps.size := by cases d <;> simp [Act.put]
theorem defers_put (a : Act) (d : Option Nat) (v : Value) : (a.put d v).defers = a.defers := by cases d <;> rfl
def yl (ops : Array Oper) (ρ : Env) (j : Nat) : Option Bool :=
 match (ops[j]?).bind (·.dst) with
 | some t => match ρ t with
  | .bool b => some b
  | _ => none
 | none => none
theorem Rep.yielded {n : Nat} {a : Act} {ρ : Env} {ds : List Deferred} (h : Rep n a ρ ds) (ops : Array Oper) : yielded ops a.tmps = yl ops ρ := by
 funext j
 unfold Go.yielded yl
 cases hd : (ops[j]?).bind (·.dst) with
 | none => simp
 | some t =>
  simp only [Option.bind_some]
  rw [← h.get t]
  cases ht : a.tmps[t]? with
  | none => simp [ht, undef]
  | some v => cases v <;> simp [ht]
abbrev Post := Exit → Env → List Deferred → Chunk → Prop
def Kx (w0 : World) (n : Nat) (K : Post) : Exit → Act → World → Prop :=
 fun e a w => ∃ ρ ds L, Rep n a ρ ds ∧ St w0 w L ∧ K e ρ ds L
def CW (P : Program) (w0 : World) (rd : Option Nat) (n : Nat) (c : Code) (K : Post) (ρ : Env) (ds : List Deferred) (L : Chunk) : Prop :=
 ∀ a w, Rep n a ρ ds → St w0 w L → c.wpIn (fence rd) 0 P (Kx w0 n K) a w
def thenK (next : Env → List Deferred → Chunk → Prop) (K : Post) : Post
 | .normal, ρ, ds, L => next ρ ds L
 | e, ρ, ds, L => K e ρ ds L
def blockK (id : Nat) (K : Post) : Post
 | .exit id', ρ, ds, L => if id' = id then K .normal ρ ds L else K (.exit id') ρ ds L
 | e, ρ, ds, L => K e ρ ds L
section
variable {P : Program} {w0 : World} {rd : Option Nat} {n : Nat} {K : Post} {ρ : Env} {ds : List Deferred} {L : Chunk}
theorem CW.skip (h : K .normal ρ ds L) : CW P w0 rd n .skip K ρ ds L := fun _ _ hr hs => wpIn_skip ⟨_, _, _, hr, hs, h⟩
theorem CW.label {l : Nat} (h : K .normal ρ ds L) : CW P w0 rd n (.label l) K ρ ds L := fun _ _ hr hs => wpIn_label ⟨_, _, _, hr, hs, h⟩
theorem CW.exit {id : Nat} (h : K (.exit id) ρ ds L) : CW P w0 rd n (.exit id) K ρ ds L := fun _ _ hr hs => wpIn_exit ⟨_, _, _, hr, hs, h⟩
theorem CW.goto {l : Nat} (h : K (.goto l) ρ ds L) : CW P w0 rd n (.goto l) K ρ ds L := fun _ _ hr hs => wpIn_goto ⟨_, _, _, hr, hs, h⟩
theorem CW.ret (h : K .ret ρ ds L) : CW P w0 rd n .ret K ρ ds L := fun _ _ hr hs => wpIn_ret ⟨_, _, _, hr, hs, h⟩
theorem CW.mono {c : Code} {K' : Post} (h : CW P w0 rd n c K' ρ ds L) (hk : ∀ e ρ ds L, K' e ρ ds L → K e ρ ds L) : CW P w0 rd n c K ρ ds L :=
 fun a w hr hs => wpIn_mono (h a w hr hs) fun _ _ _ ⟨ρ, ds, L, r, s, k⟩ => ⟨ρ, ds, L, r, s, hk _ _ _ _ k⟩
theorem CW.seq {x y : Code} (h : CW P w0 rd n x (thenK (fun ρ ds L => CW P w0 rd n y K ρ ds L) K) ρ ds L) : CW P w0 rd n (.seq x y) K ρ ds L :=
 fun a w hr hs => wpIn_seq (wpIn_mono (h a w hr hs) fun e a w ⟨ρ, ds, L, r, s, k⟩ => by
  cases e <;> first | exact k a w r s | exact ⟨ρ, ds, L, r, s, k⟩)
theorem CW.cond {c : Operand} {x y : Code} {t : Bool} (hc : ev ρ c = .bool t) (ht : t = true → CW P w0 rd n x K ρ ds L) (hf : t = false → CW P w0 rd n y K ρ ds L) :
  CW P w0 rd n (.cond c x y) K ρ ds L := fun a w hr hs => by
 refine wpIn_cond_split (t := t) (by rw [hr.eval]; exact hc) (fun e => ht e a w hr hs) (fun e => hf e a w hr hs)
theorem CW.block {id : Nat} {c : Code} (h : CW P w0 rd n c (blockK id K) ρ ds L) : CW P w0 rd n (.block id c) K ρ ds L :=
 fun a w hr hs => wpIn_block (wpIn_mono (h a w hr hs) fun e a w ⟨ρ, ds, L, r, s, k⟩ => by
  cases e with
  | exit id' =>
   simp only [blockK] at k
   simp only [Exit.inBlock]
   split <;> rename_i hh
   ·rw [if_pos hh] at k; exact ⟨ρ, ds, L, r, s, k⟩
   ·rw [if_neg hh] at k; exact ⟨ρ, ds, L, r, s, k⟩
  | _ => exact ⟨ρ, ds, L, r, s, k⟩)
theorem CW.loop {c : Code} (I : Nat → Env → List Deferred → Chunk → Prop) (m : Nat) (h0 : I m ρ ds L)
  (round : ∀ m ρ ds L, I m ρ ds L → CW P w0 rd n c (thenK (fun ρ' ds' L' => ∃ m', m' < m ∧ I m' ρ' ds' L') K) ρ ds L) :
  CW P w0 rd n (.loop c) K ρ ds L := by
 intro a w hr hs b k cs hro hb hroom
 have key : ∀ j a w ρ ds L, Rep n a ρ ds → St w0 w L → I j ρ ds L →
   ∃ e a' w', Kx w0 n K e a' w' ∧ ArrivesIn (Machine.fenced P (fence rd)) P (lone (b.atR a (.code c :: .inLoop c :: k)) cs w) b k cs e a' w' := by
  intro j
  induction j using Nat.strongRecOn with
  | _ j ih =>
   intro a w ρ ds L hr hs hI
   obtain ⟨e, a₁, w₁, ⟨ρ₁, ds₁, L₁, hr₁, hs₁, hq⟩, harr⟩ := round j ρ ds L hI a w hr hs b (.inLoop c :: k) cs hro hb hroom
   cases e with
   | normal =>
    obtain ⟨m', hlt, hI₁⟩ := hq
    obtain ⟨e₂, a₂, w₂, hq₂, harr₂⟩ := ih m' hlt a₁ w₁ ρ₁ ds₁ L₁ hr₁ hs₁ hI₁
    exact ⟨e₂, a₂, w₂, hq₂, .of_steps (StepsIn.trans harr (.one (fenced_calm hb hroom rfl) stepR_inLoop)) harr₂⟩
   | exit id => exact ⟨_, a₁, w₁, ⟨ρ₁, ds₁, L₁, hr₁, hs₁, hq⟩, .pass (x := .inLoop c) rfl (fun _ _ => .inl (by simp)) harr⟩
   | goto l => exact ⟨_, a₁, w₁, ⟨ρ₁, ds₁, L₁, hr₁, hs₁, hq⟩, .pass (x := .inLoop c) rfl (fun _ _ => .inl (by simp)) harr⟩
   | ret => exact ⟨_, a₁, w₁, ⟨ρ₁, ds₁, L₁, hr₁, hs₁, hq⟩, .pass (x := .inLoop c) rfl (fun _ _ => .inl (by simp)) harr⟩
   | panic ch => exact ⟨_, a₁, w₁, ⟨ρ₁, ds₁, L₁, hr₁, hs₁, hq⟩, .pass (x := .inLoop c) rfl (fun _ _ => .inl (by simp)) harr⟩
   | outgrown => exact ⟨_, a₁, w₁, ⟨ρ₁, ds₁, L₁, hr₁, hs₁, hq⟩, .pass (x := .inLoop c) rfl (fun _ _ => .inl (by simp)) harr⟩
 obtain ⟨e, a', w', hq, harr⟩ := key m a w ρ ds L hr hs h0
 exact ⟨e, a', w', hq, .of_steps (.one (fenced_calm hb hroom rfl) stepR_loop) harr⟩
theorem St.drop {w : World} {L' : Chunk} (h : St w0 w L) (hs : L'.Sublist L) : St w0 w L' :=
 ⟨h.os, h.out, List.Nodup.sublist (hs.map _) h.nodup, h.pn.sub fun _ hp => hs.subset hp⟩
theorem CW.drop {c : Code} {L' : Chunk} (hs : L'.Sublist L) (h : CW P w0 rd n c K ρ ds L') : CW P w0 rd n c K ρ ds L :=
 fun a w hr hst => h a w hr (hst.drop hs)
theorem St.perm {w : World} {L' : Chunk} (h : St w0 w L) (hp : L.Perm L') : St w0 w L' :=
 ⟨h.os, h.out, (hp.map Prod.fst).nodup_iff.1 h.nodup, h.pn.sub fun _ hq => hp.symm.subset hq⟩
end
def Yl (P : Program) (ρ : Env) (L : Chunk) (op : Op) (ty : TypeId) (v : Value) : Prop :=
 (∀ c, op ≠ .defer c) ∧ ∀ w o, o.op = op → o.type = ty → Pn w L → (execOp (ev ρ) o).run P w = .ok (.value v) w
def Ef (P : Program) (ρ : Env) (L : Chunk) (op : Op) (ty : TypeId) (Φ : Value → Chunk → Prop) (Ψ : List PanicEntry → Chunk → Prop) : Prop :=
 (∀ c, op ≠ .defer c) ∧ ∀ w0 w rd a next Q o, o.op = op → o.type = ty → a.eval = ev ρ → St w0 w L →
  (∀ v w' L', St w0 w' L' → Φ v L' → next (a.put o.dst v) w') → (∀ ch w' L', St w0 w' L' → Ψ ch L' → Q (.panic ch) a w') →
  Oper.uponIn (fence rd) 0 P o a next Q ((execOp (ev ρ) o).run P w)
def noPanic : List PanicEntry → Chunk → Prop := fun _ _ => False
def dstOk (n : Nat) (o : Oper) : Bool := o.dst.all (· < n)
def OW (P : Program) (w0 : World) (rd : Option Nat) (n : Nat) (ops : Array Oper) (K : Post) (l : List Oper) (ρ : Env) (ds : List Deferred) (L : Chunk) : Prop :=
 l.all (dstOk n) = true → ∀ a w, Rep n a ρ ds → St w0 w L → wpListIn (fence rd) 0 P ops (Kx w0 n K) l a w
section
variable {P : Program} {w0 : World} {rd : Option Nat} {n : Nat} {K : Post} {ρ : Env} {ds : List Deferred} {L : Chunk} {ops : Array Oper} {l : List Oper}
theorem CW.region {id : Nat} {l : List Oper} (hok : l.all (dstOk n) = true) (h : OW P w0 rd n l.toArray K l ρ ds L) : CW P w0 rd n (.region id l.toArray false) K ρ ds L :=
 fun a w hr hs => wpIn_region_lit (h hok a w hr hs)
theorem OW.nil (h : K .normal ρ ds L) : OW P w0 rd n ops K [] ρ ds L := fun _ _ _ hr hs => wpListIn_nil ⟨_, _, _, hr, hs, h⟩
theorem semAt_of {o : Oper} {op : Op} (ho : o.op = op) (hd : ∀ c, op ≠ .defer c) (ρ' : Operand → Value) : Oper.semAt rd ρ' o = execOp ρ' o :=
 Oper.semAt_eq rd ρ' o fun c => ho ▸ hd c
theorem OW.val {dst : Option Tmp} {op : Op} {ty : TypeId} {pos : String} {after : Array Edge} {v : Value} (hy : Yl P ρ L op ty v)
  (h : OW P w0 rd n ops K l (updO ρ dst v) ds L) : OW P w0 rd n ops K (⟨dst, op, ty, pos, after, none⟩ :: l) ρ ds L := by
 intro hok a w hr hs
 simp only [List.all_cons, Bool.and_eq_true] at hok
 refine wpListIn_plain rfl fun K' hK => ?_
 refine ⟨fun f hf => trivial, ?_⟩
 rw [fence_round, semAt_of rfl hy.1, hr.eval, hy.2 w _ rfl rfl hs.pn]
 exact hK _ _ (h hok.2 _ _ (hr.put hok.1 v) hs)
theorem OW.eff {dst : Option Tmp} {op : Op} {ty : TypeId} {pos : String} {after : Array Edge} {Φ : Value → Chunk → Prop} {Ψ : List PanicEntry → Chunk → Prop} (he : Ef P ρ L op ty Φ Ψ)
  (h : ∀ v L', Φ v L' → OW P w0 rd n ops K l (updO ρ dst v) ds L') (hp : ∀ ch L', Ψ ch L' → K (.panic ch) ρ ds L') : OW P w0 rd n ops K (⟨dst, op, ty, pos, after, none⟩ :: l) ρ ds L := by
 intro hok a w hr hs
 simp only [List.all_cons, Bool.and_eq_true] at hok
 refine wpListIn_plain rfl fun K' hK => ?_
 refine ⟨fun f hf => trivial, ?_⟩
 rw [fence_round, semAt_of rfl he.1, hr.eval]
 exact he.2 w0 w rd a K' _ _ rfl rfl hr.eval hs (fun v w' L' hs' hv => hK _ _ (h v L' hv hok.2 _ _ (hr.put hok.1 v) hs')) (fun ch w' L' hs' hv => ⟨_, _, _, hr, hs', hp ch L' hv⟩)
theorem OW.guarded {dst : Option Tmp} {op : Op} {ty : TypeId} {pos : String} {after : Array Edge} {g : Nat × Bool} {t : Bool} (hg : (yl ops ρ g.1 == some g.2) = t)
  (ht : t = true → OW P w0 rd n ops K (⟨dst, op, ty, pos, after, none⟩ :: l) ρ ds L) (hf : t = false → OW P w0 rd n ops K l (updO ρ dst undef) ds L) :
  OW P w0 rd n ops K (⟨dst, op, ty, pos, after, some g⟩ :: l) ρ ds L := by
 intro hok a w hr hs
 have hok' := hok
 simp only [List.all_cons, Bool.and_eq_true] at hok'
 have hw : Region.wanted ⟨dst, op, ty, pos, after, some g⟩ (yielded ops a.tmps) = t := by
  rw [hr.yielded]; exact hg
 unfold wpListIn
 cases t with
 | true =>
  have := ht rfl (by simpa [dstOk] using hok) a w hr hs
  unfold wpListIn at this
  simp only [Region.wanted, if_true] at this
  rw [if_pos hw]
  exact this
 | false =>
  rw [if_neg (by rw [hw]; simp)]
  exact ⟨fun _ _ => trivial, hf rfl hok'.2 _ _ (hr.put hok'.1 undef) hs⟩
end
end Go.Pw

namespace Go.Pw

/-- Does an operation change the world, or may it run code? -/
def isEff (o : Oper) : Bool := match o.op with
  | .move _ | .assign _ | .pick .. | .build .. | .load .. | .nilCheck _ | .binOp .. | .unOp .. | .convert .. | .makeInterface .. | .slice .. | .fieldAddr .. | .field ..
  | .indexAddr .. | .index .. | .lookup .. | .typeAssert .. | .extract .. | .makeFunc .. => false
  | .call { callee := .builtin b, .. } => match b with | .len | .cap | .min | .max => false | _ => true
  | _ => true

def noOdd (ops : Array Oper) : Bool := ops.all fun o => match o.op with | .select .. | .defer _ => false | _ => true

def chk (ops : Array Oper) : List Nat → Array Bool → Bool
  | [], listed => (Region.ready .any ops listed).isEmpty
  | i :: l, listed =>
    (match ops[i]? with
     | none => false
     | some o => (Region.ready .any ops listed).contains i && (if isEff o then Region.ready .any ops listed == [i] else Region.free .any ops listed i)) &&
    chk ops l (listed.setIfInBounds i true)

/-- All that is asked of a region's text, in one look. -/
def regionOk (n : Nat) (ops : Array Oper) (l : List Nat) : Bool :=
  noOdd ops && ops.all (dstOk n) && decide (l.length ≤ ops.size) && chk ops l (Array.replicate ops.size false)

section
variable {P : Program} {F : Fence} {ops : Array Oper} {Q : Exit → Act → World → Prop}

def YI (P : Program) (ops : Array Oper) (R : Chunk) (o : Oper) (v : Value) (a : Act) : Prop :=
  (Region.wanted o (yielded ops a.tmps) = true ∧ ∀ w, Pn w R → (execOp a.eval o).run P w = .ok (.value v) w) ∨
  (Region.wanted o (yielded ops a.tmps) = false ∧ v = undef)

theorem YI.more {R R' : Chunk} {o : Oper} {v : Value} {a : Act} (h : YI P ops R o v a) (hs : ∀ p ∈ R, p ∈ R') : YI P ops R' o v a :=
  h.imp (fun ⟨hw, hv⟩ => ⟨hw, fun w hp => hv w (hp.sub hs)⟩) id

theorem YI.of_same {R : Chunk} {o : Oper} {v : Value} {a a' : Act} (h : YI P ops R o v a) (he : execOp a'.eval o = execOp a.eval o)
    (hw : Region.wanted o (yielded ops a'.tmps) = Region.wanted o (yielded ops a.tmps)) : YI P ops R o v a' := by
  unfold YI at *; rw [he, hw]; exact h

theorem YI.op {R : Chunk} {i : Nat} {o : Oper} {v : Value} {a : Act} (hF : ∀ f, F.fn f) (hnd : ∀ c, o.op ≠ .defer c) (hi : ops[i]? = some o) (h : YI P ops R o v a)
    {K : Act → World → Prop} {w : World} (hp : Pn w R) (hk : K (a.put o.dst v) w) : wpOpIn F 0 P ops Q i K a w := by
  unfold wpOpIn
  simp only [hi]
  rcases h with ⟨hw, hv⟩ | ⟨hw, rfl⟩
  · rw [if_pos hw]
    refine ⟨fun f _ => hF f, ?_⟩
    rw [Oper.semAt_eq _ _ _ hnd, hv w hp]
    exact hk
  · rw [if_neg (by rw [hw]; simp)]
    exact ⟨fun f _ => hF f, hk⟩

theorem wpOpIn_putR {R : Chunk} {j : Nat} {oi oj : Oper} {v : Value} (hF : ∀ f, F.fn f) (hj : ops[j]? = some oj) (hap : oi.apart ops oj = true)
    (hsi : ∀ cs b, oi.op ≠ .select cs b) (hsj : ∀ cs b, oj.op ≠ .select cs b) (hdj : ∀ c, oj.op ≠ .defer c)
    (hQ : ∀ c a d v w, Q (.panic c) (a.put d v) w → Q (.panic c) a w) {K : Act → World → Prop} {a : Act} {w : World}
    (hy : YI P ops R oi v a) (h : wpOpIn F 0 P ops Q j K (a.put oi.dst v) w) :
    wpOpIn F 0 P ops Q j (fun a' w' => YI P ops R oi v a' ∧ K (a'.put oi.dst v) w') a w := by
  obtain ⟨h1, h2, h3⟩ := Oper.apart_spec hap
  have keep : ∀ (a : Act), YI P ops R oi v a → ∀ u, YI P ops R oi v (a.put oj.dst u) := fun a hy u =>
    hy.of_same (execOp_put oi hsi a oj.dst u h3) (wanted_put oi a oj.dst u h3)
  unfold wpOpIn at *
  simp only [hj] at *
  rw [wanted_put oj a oi.dst v h1] at h
  split
  · rename_i hw
    rw [if_pos hw] at h
    unfold Oper.wpIn at *
    refine ⟨fun f _ => hF f, ?_⟩
    have h := h.2
    rw [Oper.semAt_eq _ _ _ hdj, execOp_put oj hsj a oi.dst v h1] at h
    rw [Oper.semAt_eq _ _ _ hdj]
    have hnd : ∀ d w', (execOp a.eval oj).run P w ≠ .ok (.defer d) w' → True := fun _ _ _ => trivial
    generalize (execOp a.eval oj).run P w = r at *
    cases r with
    | ok x w' =>
      cases x <;> simp only [Oper.uponIn] at h ⊢
      case value u => exact ⟨keep a hy u, by rw [← Act.put_comm a v u h2]; exact h⟩
      case skip => exact ⟨keep a hy _, by rw [← Act.put_comm a v undef h2]; exact h⟩
      case defer d =>
        refine ⟨keep ({ a with defers := d :: a.defers } : Act) (hy.of_same rfl rfl) undef, ?_⟩
        rw [← Act.put_comm _ v undef h2, ← Act.put_defers]
        exact h
      case enter f args =>
        refine ⟨h.1, CallsIn.mono h.2 fun e w'' he => ?_⟩
        cases e with
        | returned u => exact ⟨keep a hy u, by rw [← Act.put_comm a v u h2]; exact he⟩
        | panicked c => exact hQ _ _ _ _ _ he
        | outgrown => exact he
      case row row args => exact ⟨h.1, RowsIn.mono h.2 fun u w'' he => ⟨keep a hy u, by rw [← Act.put_comm a v u h2]; exact he⟩⟩
      case round l f tmps assign body =>
        refine ⟨h.1, RoundIn.mono h.2 fun e w'' he => ?_⟩
        cases e with
        | returned u => exact ⟨keep a hy u, by rw [← Act.put_comm a v u h2]; exact he⟩
        | panicked c => exact hQ _ _ _ _ _ he
        | outgrown => exact he
    | halt x w' =>
      cases x <;> simp only [Oper.uponIn] at h ⊢
      case panic u => exact hQ _ _ _ _ _ h
  · rename_i hw
    rw [if_neg hw] at h
    exact ⟨fun f _ => hF f, keep a hy _, by rw [← Act.put_comm a v undef h2]; exact h.2⟩

/-- It waits for all that were taken. -/
def depAll (ops : Array Oper) (listed : Array Bool) (j : Nat) : Bool :=
  match ops[j]? with
  | some o => (List.range ops.size).all fun i => !(listed.getD i false) || o.after.any (fun e => Region.binds .any e && e.on == i)
  | none => false

def AnyR (F : Fence) (P : Program) (ops : Array Oper) (Q : Exit → Act → World → Prop) : Nat → Array Bool → Chunk → Act → World → Prop
  | 0, listed, _, a, w => Region.ready .any ops listed = [] ∧ Q .normal a w
  | fuel + 1, listed, R, a, w =>
    (Region.ready .any ops listed = [] → Q .normal a w) ∧
    ∀ i ∈ Region.ready .any ops listed, wpOpIn F 0 P ops Q i (fun a' w' => ∃ R', ((∀ p ∈ R, p ∈ R') ∨ depAll ops listed i = true) ∧ Pn w' R' ∧ AnyR F P ops Q fuel (listed.setIfInBounds i true) R' a' w') a w

theorem AnyR.any : ∀ (fuel : Nat) (listed : Array Bool) (R : Chunk) (a : Act) (w : World), AnyR F P ops Q fuel listed R a w → wpAnyIn F 0 P .any ops Q fuel listed a w
  | 0, _, _, _, _, h => h
  | fuel + 1, _, _, _, _, h => ⟨h.1, fun i hi => wpOpIn_mono (fun a' w' ⟨_, _, _, h'⟩ => AnyR.any fuel _ _ a' w' h') (h.2 i hi)⟩

theorem AnyR.done {listed : Array Bool} {R : Chunk} {a : Act} {w : World} (hr : Region.ready .any ops listed = []) (h : Q .normal a w) : ∀ fuel, AnyR F P ops Q fuel listed R a w
  | 0 => ⟨hr, h⟩
  | _ + 1 => ⟨fun _ => h, by rw [hr]; simp⟩

theorem AnyR.first {i : Nat} {oi : Oper} {v : Value} (hF : ∀ f, F.fn f) (hi : ops[i]? = some oi) (hsel : ∀ (j : Nat) (o : Oper) cs b, ops[j]? = some o → o.op ≠ .select cs b)
    (hdef : ∀ (j : Nat) (o : Oper) c, ops[j]? = some o → o.op ≠ .defer c)
    (hQ : ∀ c a d v w, Q (.panic c) (a.put d v) w → Q (.panic c) a w) :
    ∀ (fuel : Nat) (listed : Array Bool) (R : Chunk) (a : Act) (w : World),
      (∀ j oj, ops[j]? = some oj → j ≠ i → listed.getD j true = false → (∀ e ∈ oj.after, Region.binds .any e = true → e.on ≠ i) → oi.apart ops oj = true) →
      i ∈ Region.ready .any ops listed → YI P ops R oi v a → Pn w R →
      AnyR F P ops Q fuel (listed.setIfInBounds i true) R (a.put oi.dst v) w → AnyR F P ops Q (fuel + 1) listed R a w := by
  intro fuel
  induction fuel with
  | zero =>
    intro listed R a w _ hr hy hp H
    refine ⟨fun h => (by rw [h] at hr; cases hr), fun j hj => ?_⟩
    by_cases hji : j = i
    · subst hji; exact hy.op hF (fun c => hdef _ _ c hi) hi hp ⟨R, .inl fun _ h => h, hp, H⟩
    · have := ready_mono hj hji
      rw [H.1] at this
      cases this
  | succ fuel ih =>
    intro listed R a w hfree hr hy hp H
    refine ⟨fun h => (by rw [h] at hr; cases hr), fun j hj => ?_⟩
    by_cases hji : j = i
    · subst hji; exact hy.op hF (fun c => hdef _ _ c hi) hi hp ⟨R, .inl fun _ h => h, hp, H⟩
    · have h1 := H.2 j (ready_mono hj hji)
      obtain ⟨hjun, oj, hoj, hall⟩ := mem_ready.1 hj
      have hnot : ∀ e ∈ oj.after, Region.binds .any e = true → e.on ≠ i := fun e he hb heq => by
        have h1 := hall e he hb
        have h0 := (mem_ready.1 hr).1
        rw [heq] at h1
        rcases Nat.lt_or_ge i listed.size with h' | h'
        · simp [h'] at h0 h1; rw [h0] at h1; cases h1
        · simp [Array.getElem?_eq_none h'] at h1
      have h2 := wpOpIn_putR hF hoj (hfree j oj hoj hji hjun hnot) (fun cs b => hsel i oi cs b hi) (fun cs b => hsel j oj cs b hoj) (fun c => hdef j oj c hoj) hQ hy h1
      have hfree' : ∀ k ok, ops[k]? = some ok → k ≠ i → (listed.setIfInBounds j true).getD k true = false →
          (∀ e ∈ ok.after, Region.binds .any e = true → e.on ≠ i) → oi.apart ops ok = true := fun k ok hk hki hun hno => by
        refine hfree k ok hk hki ?_ hno
        by_cases hjk : j = k
        · subst hjk; exact hjun
        · rw [getD_set_ne true hjk] at hun; exact hun
      refine wpOpIn_mono (fun a' w' h3 => ?_) h2
      obtain ⟨hy', R', hs, hp', H'⟩ := h3
      have hs : ∀ p ∈ R, p ∈ R' := hs.resolve_right fun hd => by
        unfold depAll at hd
        rw [hoj] at hd
        have hil := (mem_ready.1 hr).1
        have hsz : i < ops.size := (Array.getElem?_eq_some_iff.1 hi).1
        have h9 := List.all_eq_true.1 hd i (List.mem_range.2 hsz)
        have h10 : (listed.setIfInBounds i true).getD i false = true := by
          rcases Nat.lt_or_ge i listed.size with h' | h'
          · simp [h']
          · simp [Array.getElem?_eq_none h'] at hil
        rw [h10] at h9
        simp only [Bool.not_true, Bool.false_or, Array.any_eq_true] at h9
        obtain ⟨x, hx, he⟩ := h9
        rw [Bool.and_eq_true] at he
        exact hnot _ (Array.getElem_mem hx) he.1 (by simpa using he.2)
      refine ⟨R', .inl hs, hp', ih (listed.setIfInBounds j true) R' a' w' hfree' (ready_mono hr (Ne.symm hji)) (hy'.more hs) hp' ?_⟩
      rw [Array.setIfInBounds_comm _ _ hji]
      exact H'

/-- The walk over a region in a given order. -/
def RDc (F : Fence) (P : Program) (ops : Array Oper) (Q : Exit → Act → World → Prop) (Fin : Chunk → Act → World → Prop) : List Nat → Chunk → Act → World → Prop
  | [], R, a, w => Fin R a w
  | i :: l, R, a, w => ∃ o, ops[i]? = some o ∧
    ((isEff o = false ∧ ∃ v, YI P ops R o v a ∧ RDc F P ops Q Fin l R (a.put o.dst v) w) ∨
     (isEff o = true ∧ wpOpIn F 0 P ops Q i (fun a' w' => ∃ R', (∀ p ∈ R, p ∈ R') ∧ Pn w' R' ∧ RDc F P ops Q Fin l R' a' w') a w))

/-- These may be taken one by one. -/
def chkP (ops : Array Oper) : List Nat → Array Bool → Bool
  | [], _ => true
  | i :: l, listed =>
    (match ops[i]? with
     | none => false
     | some o => (Region.ready .any ops listed).contains i && (if isEff o then Region.ready .any ops listed == [i] else Region.free .any ops listed i)) &&
    chkP ops l (listed.setIfInBounds i true)
def tick : List Nat → Array Bool → Array Bool
  | [], listed => listed
  | i :: l, listed => tick l (listed.setIfInBounds i true)
theorem chk_eq (ops : Array Oper) : ∀ (l : List Nat) (listed : Array Bool), chk ops l listed = (chkP ops l listed && (Region.ready .any ops (tick l listed)).isEmpty)
  | [], listed => by simp [chk, chkP, tick]
  | i :: l, listed => by
    simp only [chk, chkP, tick, chk_eq ops l, Bool.and_assoc]

theorem RDc.anyP (hF : ∀ f, F.fn f) (hodd : noOdd ops = true) (hQ : ∀ c a d v w, Q (.panic c) (a.put d v) w → Q (.panic c) a w) {Fin : Chunk → Act → World → Prop} {more : Nat} {last : Array Bool}
    (hfin : ∀ R a w, Pn w R → Fin R a w → ∀ fuel, more ≤ fuel → AnyR F P ops Q fuel last R a w) :
    ∀ (l : List Nat) (fuel : Nat) (listed : Array Bool) (R : Chunk) (a : Act) (w : World), l.length + more ≤ fuel → tick l listed = last → chkP ops l listed = true → Pn w R → RDc F P ops Q Fin l R a w → AnyR F P ops Q fuel listed R a w := by
  have hsel : ∀ (j : Nat) (o : Oper) cs b, ops[j]? = some o → o.op ≠ .select cs b := fun j o cs b ho he => by
    have := Array.all_eq_true_iff_forall_mem.1 hodd o (Array.mem_of_getElem? ho)
    simp [he] at this
  have hdef : ∀ (j : Nat) (o : Oper) c, ops[j]? = some o → o.op ≠ .defer c := fun j o c ho he => by
    have := Array.all_eq_true_iff_forall_mem.1 hodd o (Array.mem_of_getElem? ho)
    simp [he] at this
  intro l
  induction l with
  | nil => intro fuel listed R a w hl ht _ hp h; subst ht; exact hfin R a w hp h fuel (by simpa using hl)
  | cons i l ih =>
    intro fuel listed R a w hl ht hc hp h
    obtain ⟨fuel, rfl⟩ : ∃ k, fuel = k + 1 := ⟨fuel - 1, by simp at hl; omega⟩
    obtain ⟨o, ho, h⟩ := h
    simp only [chkP, ho, Bool.and_eq_true] at hc
    obtain ⟨⟨hready, hkind⟩, hc⟩ := hc
    have hr : i ∈ Region.ready .any ops listed := by simpa using hready
    have hl' : l.length + more ≤ fuel := by simp at hl; omega
    rcases h with ⟨he, v, hy, h⟩ | ⟨he, h⟩
    · rw [he] at hkind
      exact AnyR.first hF ho hsel hdef hQ fuel listed R a w (Region.free_spec ho (by simpa using hkind)) hr hy hp (ih fuel _ R _ w hl' ht hc hp h)
    · rw [he] at hkind
      have hk : Region.ready .any ops listed = [i] := by simpa using hkind
      refine ⟨fun h0 => (by rw [h0] at hr; cases hr), fun j hj => ?_⟩
      rw [hk] at hj
      obtain rfl : j = i := by simpa using hj
      exact wpOpIn_mono (fun a' w' ⟨R', hs, hp', h'⟩ => ⟨R', .inl hs, hp', ih fuel _ R' a' w' hl' ht hc hp' h'⟩) h

theorem RDc.any (hF : ∀ f, F.fn f) (hodd : noOdd ops = true) (hQ : ∀ c a d v w, Q (.panic c) (a.put d v) w → Q (.panic c) a w) {Fin : Chunk → Act → World → Prop} (hfin : ∀ R a w, Fin R a w → Q .normal a w) :
    ∀ (l : List Nat) (fuel : Nat) (listed : Array Bool) (R : Chunk) (a : Act) (w : World), l.length ≤ fuel → chk ops l listed = true → Pn w R → RDc F P ops Q Fin l R a w → AnyR F P ops Q fuel listed R a w := by
  intro l fuel listed R a w hl hc hp h
  rw [chk_eq, Bool.and_eq_true] at hc
  refine RDc.anyP (more := 0) hF hodd hQ (fun R a w _ h fuel _ => AnyR.done (by simpa using hc.2) (hfin R a w h) fuel) l fuel listed R a w (by omega) rfl hc.1 hp h
end


/-- One operation, whichever its number is. -/
def opIn (F : Fence) (P : Program) (ops : Array Oper) (Q : Exit → Act → World → Prop) (o : Oper) (K : Act → World → Prop) (a : Act) (w : World) : Prop :=
  if Region.wanted o (yielded ops a.tmps) then o.wpIn F 0 P a w K Q else (∀ f, o.about P w a.eval = some f → F.fn f) ∧ K (a.put o.dst undef) w

/-- The walk over operations in a given order. -/
def RDl (F : Fence) (P : Program) (ops : Array Oper) (Q : Exit → Act → World → Prop) (Fin : Chunk → Act → World → Prop) : List Oper → Chunk → Act → World → Prop
  | [], R, a, w => Fin R a w
  | o :: l, R, a, w =>
    (isEff o = false ∧ ∃ v, YI P ops R o v a ∧ RDl F P ops Q Fin l R (a.put o.dst v) w) ∨
    (isEff o = true ∧ opIn F P ops Q o (fun a' w' => ∃ R', (∀ p ∈ R, p ∈ R') ∧ Pn w' R' ∧ RDl F P ops Q Fin l R' a' w') a w)

def nthOp : List Oper → Nat → Option Oper
  | [], _ => none
  | o :: _, 0 => some o
  | _ :: l, i + 1 => nthOp l i

theorem nthOp_eq : ∀ (l : List Oper) (i : Nat), nthOp l i = l[i]?
  | [], _ => rfl
  | _ :: _, 0 => rfl
  | _ :: l, i + 1 => by simp [nthOp, nthOp_eq l i]

/-- The operations of these numbers. -/
def pickOps (l : List Oper) : List Nat → List Oper
  | [] => []
  | i :: is => match nthOp l i with
    | some o => o :: pickOps l is
    | none => pickOps l is

theorem opIn_quit {F : Fence} {P : Program} {ops : Array Oper} {Q Q' : Exit → Act → World → Prop} (hq : ∀ e a w, Q (.panic e) a w → Q' (.panic e) a w) {K : Act → World → Prop} {a : Act} {w : World} {o : Oper} (hl : LetsOut Q → LetsOut Q') (h : opIn F P ops Q o K a w) : opIn F P ops Q' o K a w := by
  unfold opIn at *
  split
  · rename_i hw
    rw [if_pos hw] at h
    unfold Oper.wpIn at *
    refine ⟨h.1, ?_⟩
    have h := h.2
    generalize (o.semAt F.round a.eval).run P w = r at *
    cases r with
    | ok x w' =>
      cases x <;> simp only [Oper.uponIn] at h ⊢
      case value u => exact h
      case skip => exact h
      case defer d => exact h
      case enter f args =>
        refine ⟨h.1, CallsIn.mono h.2 fun e w'' he => ?_⟩
        cases e with
        | returned u => exact he
        | panicked c => exact hq _ _ _ he
        | outgrown => exact hl he
      case row row args => exact h
      case round l f tmps assign body =>
        refine ⟨h.1, RoundIn.mono h.2 fun e w'' he => ?_⟩
        cases e with
        | returned u => exact he
        | panicked c => exact hq _ _ _ he
        | outgrown => exact hl he
    | halt x w' =>
      cases x <;> simp only [Oper.uponIn] at h ⊢
      case panic u => exact hq _ _ _ h
  · rename_i hw
    rw [if_neg hw] at h
    exact h
theorem opIn_eq {F : Fence} {P : Program} {ops : Array Oper} {Q : Exit → Act → World → Prop} {K : Act → World → Prop} {a : Act} {w : World} {i : Nat} {o : Oper} (he : ops[i]? = some o) : opIn F P ops Q o K a w = wpOpIn F 0 P ops Q i K a w := by
  unfold opIn wpOpIn; rw [he]

theorem RDl.rdc {F : Fence} {P : Program} {l : List Oper} {Q : Exit → Act → World → Prop} {Fin : Chunk → Act → World → Prop} : ∀ (is : List Nat) (listed : Array Bool) (R : Chunk) (a : Act) (w : World), chkP l.toArray is listed = true → RDl F P l.toArray Q Fin (pickOps l is) R a w → RDc F P l.toArray Q Fin is R a w
  | [], _, _, _, _, _, h => h
  | i :: is, listed, R, a, w, hc, h => by
    simp only [chkP, Bool.and_eq_true] at hc
    obtain ⟨h1, h2⟩ := hc
    have he : l.toArray[i]? = nthOp l i := by rw [nthOp_eq]; simp
    rw [he] at h1
    simp only [pickOps] at h
    cases ho : nthOp l i with
    | none => rw [ho] at h1; cases h1
    | some o =>
      rw [ho] at h
      rw [ho] at he
      refine ⟨o, he, ?_⟩
      rcases h with ⟨he', v, hy, h⟩ | ⟨he', h⟩
      · exact .inl ⟨he', v, hy, RDl.rdc is _ R _ w h2 h⟩
      · refine .inr ⟨he', ?_⟩
        rw [opIn_eq he] at h
        exact wpOpIn_mono (fun a' w' ⟨R', x, y, z⟩ => ⟨R', x, y, RDl.rdc is _ R' a' w' h2 z⟩) h

theorem opIn_mono {F : Fence} {P : Program} {ops : Array Oper} {Q : Exit → Act → World → Prop} {K K' : Act → World → Prop} {a : Act} {w : World} {o : Oper} {i : Nat} (hi : ops[i]? = some o) (hk : ∀ a w, K a w → K' a w) (h : opIn F P ops Q o K a w) : opIn F P ops Q o K' a w := by
  rw [opIn_eq hi] at h ⊢
  exact wpOpIn_mono hk h
theorem RDl.quit {F : Fence} {P : Program} {ops : Array Oper} {Q Q' : Exit → Act → World → Prop} (hq : ∀ e a w, Q (.panic e) a w → Q' (.panic e) a w) (ho : LetsOut Q → LetsOut Q') {Fin : Chunk → Act → World → Prop} : ∀ (l : List Oper) (R : Chunk) (a : Act) (w : World), (∀ o ∈ l, ∃ i : Nat, ops[i]? = some o) → RDl F P ops Q Fin l R a w → RDl F P ops Q' Fin l R a w
  | [], _, _, _, _, h => h
  | o :: l, R, a, w, hl, h => by
    have hl' : ∀ o ∈ l, ∃ i : Nat, ops[i]? = some o := fun o h => hl o (List.mem_cons_of_mem _ h)
    rcases h with ⟨he, v, hy, h⟩ | ⟨he, h⟩
    · exact .inl ⟨he, v, hy, RDl.quit hq ho l R _ w hl' h⟩
    · obtain ⟨i, hi⟩ := hl o (List.mem_cons_self ..)
      exact .inr ⟨he, opIn_mono hi (fun a' w' ⟨R', x, y, z⟩ => ⟨R', x, y, RDl.quit hq ho l R' a' w' hl' z⟩) (opIn_quit hq ho h)⟩

/-- What is known at the end of such a walk. -/
def FinR (w0 : World) (n : Nat) (K : Post) : Chunk → Act → World → Prop := fun R a w => ∃ ρ ds L, Rep n a ρ ds ∧ St w0 w L ∧ (∀ p ∈ R, p ∈ L) ∧ K .normal ρ ds L
theorem FinR.kx {w0 : World} {n : Nat} {K : Post} {R : Chunk} {a : Act} {w : World} (h : FinR w0 n K R a w) : Kx w0 n K .normal a w := let ⟨ρ, ds, L, a, b, _, c⟩ := h; ⟨ρ, ds, L, a, b, c⟩

/-- The walk over a region that draws, in a given order; R: blocks that stay as they are to the region's end. -/
def RW (P : Program) (w0 : World) (rd : Option Nat) (n : Nat) (ops : Array Oper) (K : Post) (l : List Oper) (R : Chunk) (ρ : Env) (ds : List Deferred) (L : Chunk) : Prop :=
  (∀ o ∈ l, dstOk n o = true) → (∀ p ∈ R, p ∈ L) → ∀ a w, Rep n a ρ ds → St w0 w L → RDl (fence rd) P ops (Kx w0 n K) (FinR w0 n K) l R a w

/-- A panic does not hang on the frame. -/
def Steady (K : Post) : Prop := ∀ c ρ ρ' ds L, K (.panic c) ρ ds L → K (.panic c) ρ' ds L

section
variable {P : Program} {w0 : World} {rd : Option Nat} {n : Nat} {K : Post} {ρ : Env} {ds : List Deferred} {L R : Chunk} {ops : Array Oper} {l : List Oper}

theorem Kx.steady (hK : Steady K) : ∀ c a d v w, Kx w0 n K (.panic c) (a.put d v) w → Kx w0 n K (.panic c) a w := fun c a d v w ⟨ρ, ds, L, hr, hs, hk⟩ =>
  ⟨_, ds, L, Rep.some (by rw [← hr.size, size_put]) (by rw [← hr.ds, defers_put]), hs, hK _ _ _ _ _ hk⟩

theorem St.drew {w : World} (h : St w0 w L) : St w0 { w with drawn := w.drawn + 1 } L := ⟨h.os, h.out, h.nodup, h.pn⟩

theorem pickOps_mem {l : List Oper} : ∀ {is : List Nat} {o : Oper}, o ∈ pickOps l is → o ∈ l
  | [], _, h => by cases h
  | i :: is, o, h => by
    simp only [pickOps] at h
    cases hi : nthOp l i with
    | none => rw [hi] at h; exact pickOps_mem h
    | some o' =>
      rw [hi] at h
      rcases List.mem_cons.1 h with rfl | h
      · rw [nthOp_eq] at hi; exact List.mem_of_getElem? hi
      · exact pickOps_mem h

/-- In the order of these numbers. -/
theorem CW.draws {id : Nat} (is : List Nat) (hm : P.follows .mixedOrders = true) (hok : regionOk n l.toArray is = true) (hK : Steady K) (R : Chunk) (hR : ∀ p ∈ R, p ∈ L) (h : RW P w0 rd n l.toArray K (pickOps l is) R ρ ds L) :
    CW P w0 rd n (.region id l.toArray true) K ρ ds L := by
  intro a w hr hs
  simp only [regionOk, Bool.and_eq_true, decide_eq_true_eq] at hok
  obtain ⟨⟨⟨h1, h2⟩, h3⟩, h4⟩ := hok
  refine wpIn_region_any hm (AnyR.any _ _ R _ _ ?_)
  refine RDc.any (Fin := FinR w0 n K) (fence_fn rd) h1 (Kx.steady hK) (fun _ _ _ h => FinR.kx h) is _ _ R a _ h3 h4 (hs.pn.sub hR) (RDl.rdc is _ R a _ (by rw [chk_eq, Bool.and_eq_true] at h4; exact h4.1) ?_)
  refine h (fun o ho => ?_) hR a _ hr hs.drew
  have := pickOps_mem ho
  exact Array.all_eq_true_iff_forall_mem.1 h2 o (by simpa using this)

theorem RW.nil (h : K .normal ρ ds L) : RW P w0 rd n ops K [] R ρ ds L := fun _ hR _ _ hr hs => ⟨_, _, _, hr, hs, hR, h⟩

theorem RW.val {dst : Option Tmp} {op : Op} {ty : TypeId} {pos : String} {after : Array Edge} {v : Value} (he : isEff ⟨dst, op, ty, pos, after, none⟩ = false) (hy : Yl P ρ R op ty v)
    (h : RW P w0 rd n ops K l R (updO ρ dst v) ds L) : RW P w0 rd n ops K (⟨dst, op, ty, pos, after, none⟩ :: l) R ρ ds L := by
  intro hok hR a w hr hs
  have hd := hok _ (List.mem_cons_self ..)
  exact .inl ⟨he, v, .inl ⟨rfl, fun w' hp => by rw [hr.eval]; exact hy.2 w' _ rfl rfl hp⟩, h (fun o ho => hok o (List.mem_cons_of_mem _ ho)) hR _ _ (hr.put hd v) hs⟩

/-- A guarded operation that is let by. -/
theorem RW.valG {dst : Option Tmp} {op : Op} {ty : TypeId} {pos : String} {after : Array Edge} {v : Value} {g : Nat × Bool} (hg : (yl ops ρ g.1 == some g.2) = true) (he : isEff ⟨dst, op, ty, pos, after, some g⟩ = false) (hy : Yl P ρ R op ty v)
    (h : RW P w0 rd n ops K l R (updO ρ dst v) ds L) : RW P w0 rd n ops K (⟨dst, op, ty, pos, after, some g⟩ :: l) R ρ ds L := by
  intro hok hR a w hr hs
  have hd := hok _ (List.mem_cons_self ..)
  exact .inl ⟨he, v, .inl ⟨by rw [hr.yielded]; exact hg, fun w' hp => by rw [hr.eval]; exact hy.2 w' _ rfl rfl hp⟩, h (fun o ho => hok o (List.mem_cons_of_mem _ ho)) hR _ _ (hr.put hd v) hs⟩

/-- A guarded operation that is passed over, pure or not. -/
theorem RW.skipG {dst : Option Tmp} {op : Op} {ty : TypeId} {pos : String} {after : Array Edge} {g : Nat × Bool} (hg : (yl ops ρ g.1 == some g.2) = false)
    (h : RW P w0 rd n ops K l R (updO ρ dst undef) ds L) : RW P w0 rd n ops K (⟨dst, op, ty, pos, after, some g⟩ :: l) R ρ ds L := by
  intro hok hR a w hr hs
  have hd := hok _ (List.mem_cons_self ..)
  have h' := h (fun o ho => hok o (List.mem_cons_of_mem _ ho)) hR _ _ (hr.put hd undef) hs
  have hw : Region.wanted ⟨dst, op, ty, pos, after, some g⟩ (yielded ops a.tmps) = false := by rw [hr.yielded]; exact hg
  cases he : isEff ⟨dst, op, ty, pos, after, some g⟩ with
  | false => exact .inl ⟨he, undef, .inr ⟨hw, rfl⟩, h'⟩
  | true =>
    refine .inr ⟨he, ?_⟩
    unfold opIn
    rw [if_neg (by rw [hw]; simp)]
    exact ⟨fun _ _ => trivial, R, fun _ h => h, hs.pn.sub hR, h'⟩

theorem RW.eff {dst : Option Tmp} {op : Op} {ty : TypeId} {pos : String} {after : Array Edge} {Φ : Value → Chunk → Prop} {Ψ : List PanicEntry → Chunk → Prop} {g : Option (Nat × Bool)} (hg : g.all (fun g => yl ops ρ g.1 == some g.2) = true)
    (he : isEff ⟨dst, op, ty, pos, after, g⟩ = true) (hf : Ef P ρ L op ty Φ Ψ)
    (h : ∀ v L', Φ v L' → ∃ R', (∀ p ∈ R, p ∈ R') ∧ (∀ p ∈ R', p ∈ L') ∧ RW P w0 rd n ops K l R' (updO ρ dst v) ds L') (hp : ∀ ch L', Ψ ch L' → K (.panic ch) ρ ds L') :
    RW P w0 rd n ops K (⟨dst, op, ty, pos, after, g⟩ :: l) R ρ ds L := by
  intro hok hR a w hr hs
  have hd := hok _ (List.mem_cons_self ..)
  refine .inr ⟨he, ?_⟩
  unfold opIn
  rw [if_pos (by cases g with | none => rfl | some g => rw [hr.yielded]; simpa [Region.wanted] using hg)]
  refine ⟨fun f _ => trivial, ?_⟩
  rw [fence_round, semAt_of rfl hf.1, hr.eval]
  refine hf.2 w0 w rd a _ _ _ rfl rfl hr.eval hs (fun v w' L' hs' hv => ?_) (fun ch w' L' hs' hv => ⟨_, _, _, hr, hs', hp ch L' hv⟩)
  obtain ⟨R', h1, h2, h3⟩ := h v L' hv
  exact ⟨R', h1, hs'.pn.sub h2, h3 (fun o ho => hok o (List.mem_cons_of_mem _ ho)) h2 _ _ (hr.put hd v) hs'⟩

/-- All but the last effect, which waits for all the others. -/
def regionOkE (n : Nat) (ops : Array Oper) (is : List Nat) (k : Nat) : Bool :=
  noOdd ops && ops.all (dstOk n) && decide (is.length + 1 ≤ ops.size) && chkP ops is (Array.replicate ops.size false) && (Region.ready .any ops (tick is (Array.replicate ops.size false)) == [k]) &&
  depAll ops (tick is (Array.replicate ops.size false)) k && (Region.ready .any ops ((tick is (Array.replicate ops.size false)).setIfInBounds k true)).isEmpty && (ops[k]?).isSome

theorem CW.draws_end {id : Nat} (is : List Nat) (k : Nat) (hm : P.follows .mixedOrders = true) (hok : regionOkE n l.toArray is k = true) (hK : Steady K) (R : Chunk) (hR : ∀ p ∈ R, p ∈ L)
    (h : RW P w0 rd n l.toArray (thenK (fun ρ ds L => OW P w0 rd n l.toArray K (pickOps l [k]) ρ ds L) K) (pickOps l is) R ρ ds L) :
    CW P w0 rd n (.region id l.toArray true) K ρ ds L := by
  intro a w hr hs
  simp only [regionOkE, Bool.and_eq_true, decide_eq_true_eq, beq_iff_eq] at hok
  obtain ⟨⟨⟨⟨⟨⟨⟨h1, h2⟩, h3⟩, h4⟩, h5⟩, h6⟩, h7⟩, h8⟩ := hok
  have hmem : ∀ {is : List Nat} (o : Oper), o ∈ pickOps l is → dstOk n o = true := fun o ho => Array.all_eq_true_iff_forall_mem.1 h2 o (by simpa using pickOps_mem ho)
  obtain ⟨ok, hok⟩ := Option.isSome_iff_exists.1 h8
  have hn : nthOp l k = some ok := by rw [nthOp_eq]; simpa using hok
  refine wpIn_region_any hm (AnyR.any _ _ R _ _ ?_)
  refine RDc.anyP (more := 1) (last := tick is (Array.replicate l.toArray.size false)) (Fin := FinR w0 n (thenK (fun ρ ds L => OW P w0 rd n l.toArray K (pickOps l [k]) ρ ds L) K))
    (fence_fn rd) h1 (Kx.steady hK) (fun R a w hp hf fuel hfu => ?_) is _ _ R a _ (by omega) rfl h4 (hs.pn.sub hR) (RDl.rdc is _ R a _ h4 ?_)
  · obtain ⟨ρ, ds, L, hr, hs, hRL, hw⟩ := hf
    obtain ⟨fuel, rfl⟩ : ∃ k, fuel = k + 1 := ⟨fuel - 1, by omega⟩
    refine ⟨fun h0 => (by rw [h5] at h0; cases h0), fun k' hk => ?_⟩
    rw [h5] at hk
    obtain rfl : k' = k := by simpa using hk
    have hw : OW P w0 rd n l.toArray K (pickOps l [k']) ρ ds L := hw
    have h9 := hw (List.all_eq_true.2 fun o ho => hmem o ho) a w hr hs
    simp only [pickOps, hn] at h9
    have h10 : wpOpIn (fence rd) 0 P l.toArray (Kx w0 n K) k' (fun a' w' => Kx w0 n K .normal a' w') a w := by
      unfold wpOpIn
      rw [hok]
      exact h9
    exact wpOpIn_mono (fun a' w' hx => ⟨[], .inr h6, fun _ _ h => (by cases h), AnyR.done (by simpa using h7) hx fuel⟩) h10
  · have h12 := h hmem hR a _ hr hs.drew
    refine RDl.quit (Q' := Kx w0 n K) (Q := Kx w0 n (thenK (fun ρ ds L => OW P w0 rd n l.toArray K (pickOps l [k]) ρ ds L) K)) (fun e a w h => h) (fun ⟨a, w, h⟩ => ⟨a, w, h⟩) (pickOps l is) R a _ (fun o ho => ?_) h12
    obtain ⟨k, hk⟩ := List.mem_iff_getElem?.1 (pickOps_mem ho)
    exact ⟨k, by simpa using hk⟩
end

end Go.Pw

namespace Go.Pw
def endR (w0 : World) (Φ : Value → Chunk → Prop) (Ψ : List PanicEntry → Chunk → Prop) : Ending → World → Prop
 | .returned v, w' => ∃ L', St w0 w' L' ∧ Φ v L'
 | .panicked ch, w' => ∃ L', St w0 w' L' ∧ Ψ ch L'
 | .outgrown, _ => False
def Spec (P : Program) (w0 : World) (f : FuncId) (args : List Value) (L : Chunk) (Φ : Value → Chunk → Prop) (Ψ : List PanicEntry → Chunk → Prop) : Prop :=
 ∀ w, St w0 w L → CallsIn Fence.wide 0 P f args.toArray w (endR w0 Φ Ψ)
theorem Spec.mono {P : Program} {w0 : World} {f : FuncId} {args : List Value} {L : Chunk} {Φ Φ' : Value → Chunk → Prop} {Ψ Ψ' : List PanicEntry → Chunk → Prop}
  (h : Spec P w0 f args L Φ Ψ) (h1 : ∀ v L, Φ v L → Φ' v L) (h2 : ∀ c L, Ψ c L → Ψ' c L) : Spec P w0 f args L Φ' Ψ' := fun w hs =>
 (h w hs).mono fun e w' he => by
  cases e with
  | returned v => exact let ⟨L', a, b⟩ := he; ⟨L', a, h1 _ _ b⟩
  | panicked c => exact let ⟨L', a, b⟩ := he; ⟨L', a, h2 _ _ b⟩
  | outgrown => exact he
theorem Spec.drop {P : Program} {w0 : World} {f : FuncId} {args : List Value} {L L' : Chunk} {Φ : Value → Chunk → Prop} {Ψ : List PanicEntry → Chunk → Prop}
  (hs : L'.Sublist L) (h : Spec P w0 f args L' Φ Ψ) : Spec P w0 f args L Φ Ψ := fun w hst => h w (hst.drop hs)
class Entr (P : Program) (f : FuncId) : Prop where
 run : ∀ args w, (callFunc f args).run P w = .ok (.enter f args) w
theorem Entr.of {P : Program} {f : FuncId} {fn : Func} (hf : P.funcs[f]? = some fn) (hn : (fn.name == "runtime.NumGoroutine") = false) (hb : fn.body.isNone = false) : Entr P f := by
 refine ⟨fun args w => ?_⟩
 unfold callFunc
 simp only [Sem.run_bind, run_program, Result.andThen_ok, hf, hn, hb]
 simp
section
variable {P : Program} {w0 : World} {ρ : Env} {L : Chunk}
theorem Ef.call {f : FuncId} {first captured : Array Value} {x : Operand} {args : Array Operand} {argTypes : Array TypeId} {vs : List Value} {ty : TypeId} {Φ : Value → Chunk → Prop} {Ψ : List PanicEntry → Chunk → Prop}
  (he : Entr P f) (hx : ev ρ x = .func (.func f) first captured) (hvs : (args.map (ev ρ)).toList = vs)
  (hs : ∀ w0, Spec P w0 f (first.toList ++ vs ++ captured.toList) L Φ Ψ) :
  Ef P ρ L (.call { callee := .value x, args, argTypes }) ty Φ Ψ := by
 refine ⟨fun c h => (by cases h), fun w0 w rd a next Q o ho hty ha hst hn hp => ?_⟩
 have hr : (execOp (ev ρ) o).run P w = .ok (.enter f (first ++ args.map (ev ρ) ++ captured)) w := by
  unfold execOp
  simp only [ho, resolve, hx, Deferred.ofValue, Sem.run_bind, Sem.run_pure, Result.andThen_ok, invoke, he.run]
 rw [hr]
 refine ⟨isSome_depth rd, ?_⟩
 have h := hs w0 w hst
 have e1 : (first.toList ++ vs ++ captured.toList).toArray = first ++ args.map (ev ρ) ++ captured := by
  rw [← hvs]; simp
 rw [e1] at h
 have h' : CallsIn (fence rd) (0 - 1) P f (first ++ args.map (ev ρ) ++ captured) w (endR w0 Φ Ψ) := h
 refine h'.mono fun e w' he => ?_
 cases e with
 | returned v => obtain ⟨L', a, b⟩ := he; exact hn v w' L' a b
 | panicked c => obtain ⟨L', a, b⟩ := he; exact hp c w' L' a b
 | outgrown => exact he.elim
end
def Res (P : Program) (fn : Func) (ρ : Env) (L : Chunk) (v : Value) : Prop :=
 ∀ (tmps : Array Value) w, (∀ t, tmps.getD t undef = ρ t) → Pn w L → (results fn tmps).run P w = .ok v w
def bodyK (P : Program) (fn : Func) (Φ : Value → Chunk → Prop) (Ψ : List PanicEntry → Chunk → Prop) : Post
 | .normal, ρ, ds, L | .ret, ρ, ds, L => ds = [] ∧ ∃ v L', L'.Sublist L ∧ Res P fn ρ L v ∧ Φ v L'
 | .panic ch, _, ds, L => ds = [] ∧ ∃ L', L'.Sublist L ∧ Ψ ch L'
 | _, _, _, _ => False
theorem bodyK.steady {P : Program} {fn : Func} {Φ : Value → Chunk → Prop} {Ψ : List PanicEntry → Chunk → Prop} : Steady (bodyK P fn Φ Ψ) := fun _ _ _ _ _ h => h
theorem thenK.steady {next : Env → List Deferred → Chunk → Prop} {K : Post} (h : Steady K) : Steady (thenK next K) := h
theorem blockK.steady {id : Nat} {K : Post} (h : Steady K) : Steady (blockK id K) := h
theorem Spec.enter {P : Program} {w0 : World} {f : FuncId} {fn : Func} {c : Code} {args : List Value} {ρ0 : Env} {n : Nat} {L : Chunk} {Φ : Value → Chunk → Prop} {Ψ : List PanicEntry → Chunk → Prop}
  (hf : P.funcs[f]? = some fn) (hb : fn.body = some c) (hn : fn.ntmps = n) (hle : args.length ≤ n) (hρ : ∀ t, args.getD t undef = ρ0 t)
  (h : CW P w0 none n c (bodyK P fn Φ Ψ) ρ0 [] L) : Spec P w0 f args L Φ Ψ := by
 intro w hs
 refine callsIn_of_wp hf hb trivial ?_
 subst hn
 have hrep : Rep fn.ntmps { tmps := args.toArray ++ Array.replicate (fn.ntmps - args.toArray.size) undef, defers := [] } ρ0 [] := by
  refine ⟨by simp; omega, fun t => ?_, rfl⟩
  rw [← hρ t]
  simp only [Array.getD_eq_getD_getElem?, List.getD_eq_getElem?_getD, Array.getElem?_append, List.size_toArray, List.getElem?_toArray]
  split
  ·rfl
  ·rename_i hge
   rw [List.getElem?_eq_none (by omega)]
   simp [Array.getElem?_replicate]
   split <;> rfl
 refine wpIn_mono (h _ w hrep hs) ?_
 intro e a w' ⟨ρ, ds, L', hr, hst, hk⟩
 cases e with
 | normal =>
  obtain ⟨rfl, v, L'', hsub, hres, hφ⟩ := hk
  exact ⟨hr.ds, v, hres _ _ hr.get hst.pn, L'', hst.drop hsub, hφ⟩
 | ret =>
  obtain ⟨rfl, v, L'', hsub, hres, hφ⟩ := hk
  exact ⟨hr.ds, v, hres _ _ hr.get hst.pn, L'', hst.drop hsub, hφ⟩
 | panic ch =>
  obtain ⟨rfl, L'', hsub, hφ⟩ := hk
  exact ⟨hr.ds, L'', hst.drop hsub, hφ⟩
 | exit id => exact hk
 | goto l => exact hk
 | outgrown => exact hk
section
variable {P : Program} {w0 : World} {f : FuncId} {fn : Func} {c : Code} {n : Nat} {L : Chunk} {Φ : Value → Chunk → Prop} {Ψ : List PanicEntry → Chunk → Prop}
theorem Spec.enter0 (hf : P.funcs[f]? = some fn) (hb : fn.body = some c) (hn : fn.ntmps = n) (h : CW P w0 none n c (bodyK P fn Φ Ψ) und [] L) : Spec P w0 f [] L Φ Ψ :=
 Spec.enter hf hb hn (Nat.zero_le _) (fun t => by simp [und]) h
theorem Spec.enter1 {v0 : Value} (hf : P.funcs[f]? = some fn) (hb : fn.body = some c) (hn : fn.ntmps = n) (hle : 1 ≤ n) (h : CW P w0 none n c (bodyK P fn Φ Ψ) (upd und 0 v0) [] L) : Spec P w0 f [v0] L Φ Ψ :=
 Spec.enter hf hb hn hle (fun t => by unfold upd und; split <;> simp_all) h
theorem Spec.enter2 {v0 v1 : Value} (hf : P.funcs[f]? = some fn) (hb : fn.body = some c) (hn : fn.ntmps = n) (hle : 2 ≤ n) (h : CW P w0 none n c (bodyK P fn Φ Ψ) (upd (upd und 0 v0) 1 v1) [] L) : Spec P w0 f [v0, v1] L Φ Ψ :=
 Spec.enter hf hb hn hle (fun t => by rcases t with _ | _ | t <;> simp [upd, und]) h
theorem Spec.enter3 {v0 v1 v2 : Value} (hf : P.funcs[f]? = some fn) (hb : fn.body = some c) (hn : fn.ntmps = n) (hle : 3 ≤ n) (h : CW P w0 none n c (bodyK P fn Φ Ψ) (upd (upd (upd und 0 v0) 1 v1) 2 v2) [] L) : Spec P w0 f [v0, v1, v2] L Φ Ψ :=
 Spec.enter hf hb hn hle (fun t => by rcases t with _ | _ | _ | t <;> simp [upd, und]) h
theorem Spec.enter4 {v0 v1 v2 v3 : Value} (hf : P.funcs[f]? = some fn) (hb : fn.body = some c) (hn : fn.ntmps = n) (hle : 4 ≤ n) (h : CW P w0 none n c (bodyK P fn Φ Ψ) (upd (upd (upd (upd und 0 v0) 1 v1) 2 v2) 3 v3) [] L) : Spec P w0 f [v0, v1, v2, v3] L Φ Ψ :=
 Spec.enter hf hb hn hle (fun t => by rcases t with _ | _ | _ | _ | t <;> simp [upd, und]) h
theorem Spec.enter5 {v0 v1 v2 v3 v4 : Value} (hf : P.funcs[f]? = some fn) (hb : fn.body = some c) (hn : fn.ntmps = n) (hle : 5 ≤ n) (h : CW P w0 none n c (bodyK P fn Φ Ψ) (upd (upd (upd (upd (upd und 0 v0) 1 v1) 2 v2) 3 v3) 4 v4) [] L) : Spec P w0 f [v0, v1, v2, v3, v4] L Φ Ψ :=
 Spec.enter hf hb hn hle (fun t => by rcases t with _ | _ | _ | _ | _ | t <;> simp [upd, und]) h
end
end Go.Pw

namespace Go.Pw
class IsF (b : Bool) : Prop where out : b = false
class IsT (b : Bool) : Prop where out : b = true
instance : IsF false := ⟨rfl⟩
instance : IsT true := ⟨rfl⟩
@[reducible] def beqN : Nat → Nat → Bool
 | 0, 0 => true
 | 0, _ + 1 => false
 | _ + 1, 0 => false
 | n + 1, m + 1 => beqN n m
theorem beqN_eq : ∀ a b, beqN a b = decide (a = b)
 | 0, 0 => by simp [beqN]
 | 0, _ + 1 => by simp [beqN]
 | _ + 1, 0 => by simp [beqN]
 | n + 1, m + 1 => by simp [beqN, beqN_eq n m]
class NeNat (a b : Nat) : Prop where ne : a ≠ b
instance neNat {a b : Nat} [h : IsF (beqN a b)] : NeNat a b := ⟨by have := h.out; rw [beqN_eq] at this; simpa using this⟩
class EqNat (a b : Nat) : Prop where eq : a = b
instance eqNat {a b : Nat} [h : IsT (beqN a b)] : EqNat a b := ⟨by have := h.out; rw [beqN_eq] at this; simpa using this⟩
class IntNe0 (b : Int) : Prop where ne : b ≠ 0
instance {n : Nat} [h : NeNat n 0] : IntNe0 (@OfNat.ofNat Int n instOfNat) := ⟨fun e => by have e' : (n : Int) = 0 := e; have := h.ne; omega⟩
class Ev (ρ : Env) (t : Nat) (v : outParam Value) : Prop where out : ρ t = v
instance (priority := high) evSame {ρ : Env} {t : Nat} {v : Value} : Ev (upd ρ t v) t v := ⟨upd_same ρ t v⟩
instance evNe {ρ : Env} {t d : Nat} {v u : Value} [hn : NeNat t d] [h : Ev ρ t u] : Ev (upd ρ d v) t u := ⟨by rw [upd_ne ρ v hn.ne]; exact h.out⟩
class EvO (ρ : Env) (x : Operand) (v : outParam Value) : Prop where out : ev ρ x = v
instance evoTmp {ρ : Env} {t : Nat} {v : Value} [h : Ev ρ t v] : EvO ρ (.tmp t) v := ⟨h.out⟩
instance evoConst {ρ : Env} {v : Value} : EvO ρ (.const v) v := ⟨rfl⟩
instance evoFunc {ρ : Env} {f : FuncId} : EvO ρ (.func f) (.func (.func f) #[] #[]) := ⟨rfl⟩
instance evoGlobal {ρ : Env} {g : Nat} : EvO ρ (.global g) (.pointer (some ⟨g, 0, none⟩)) := ⟨rfl⟩
class EvL (ρ : Env) (xs : List Operand) (vs : outParam (List Value)) : Prop where out : xs.map (ev ρ) = vs
instance evlNil {ρ : Env} : EvL ρ [] [] := ⟨rfl⟩
instance evlCons {ρ : Env} {x : Operand} {xs : List Operand} {v : Value} {vs : List Value} [h : EvO ρ x v] [hs : EvL ρ xs vs] : EvL ρ (x :: xs) (v :: vs) := ⟨by simp [h.out, hs.out]⟩
class InC (L : Chunk) (b : Nat) (o : outParam Obj) : Prop where out : (b, o) ∈ L
instance (priority := high) inHere {L : Chunk} {b : Nat} {o : Obj} : InC ((b, o) :: L) b o := ⟨List.mem_cons_self ..⟩
instance inThere {L : Chunk} {p : Nat × Obj} {b : Nat} {o : Obj} [h : InC L b o] : InC (p :: L) b o := ⟨List.mem_cons_of_mem _ h.out⟩
instance inLeft {A B : Chunk} {b : Nat} {o : Obj} [h : InC A b o] : InC (A ++ B) b o := ⟨List.mem_append_left _ h.out⟩
instance inRight {A B : Chunk} {b : Nat} {o : Obj} [h : InC B b o] : InC (A ++ B) b o := ⟨List.mem_append_right _ h.out⟩
class UpdC (L : Chunk) (b : Nat) (o' : Obj) (L' : outParam Chunk) : Prop where out : ∃ A B o, L = A ++ (b, o) :: B ∧ L' = A ++ (b, o') :: B
instance (priority := high) updHere {L : Chunk} {b : Nat} {o o' : Obj} : UpdC ((b, o) :: L) b o' ((b, o') :: L) := ⟨[], L, o, rfl, rfl⟩
instance updThere {L L' : Chunk} {p : Nat × Obj} {b : Nat} {o' : Obj} [h : UpdC L b o' L'] : UpdC (p :: L) b o' (p :: L') := ⟨by
 obtain ⟨A, B, o, rfl, rfl⟩ := h.out; exact ⟨p :: A, B, o, rfl, rfl⟩⟩
instance updLeft {A A' B : Chunk} {b : Nat} {o' : Obj} [h : UpdC A b o' A'] : UpdC (A ++ B) b o' (A' ++ B) := ⟨by
 obtain ⟨X, Y, o, rfl, rfl⟩ := h.out; exact ⟨X, Y ++ B, o, by simp, by simp⟩⟩
instance updRight {A B B' : Chunk} {b : Nat} {o' : Obj} [h : UpdC B b o' B'] : UpdC (A ++ B) b o' (A ++ B') := ⟨by
 obtain ⟨X, Y, o, rfl, rfl⟩ := h.out; exact ⟨A ++ X, Y, o, by simp, by simp⟩⟩
class SubC (L' L : Chunk) : Prop where out : L'.Sublist L
instance (priority := high) subRefl {L : Chunk} : SubC L L := ⟨List.Sublist.refl L⟩
instance subCons {L' L : Chunk} {p : Nat × Obj} [h : SubC L' L] : SubC L' (p :: L) := ⟨h.out.cons _⟩
instance subRight {L' A L : Chunk} [h : SubC L' L] : SubC L' (A ++ L) := ⟨h.out.trans (List.sublist_append_right _ _)⟩
instance subLeft {L' A L : Chunk} [h : SubC L' A] : SubC L' (A ++ L) := ⟨h.out.trans (List.sublist_append_left _ _)⟩
instance subCons2 {L' L : Chunk} {p : Nat × Obj} [h : SubC L' L] : SubC (p :: L') (p :: L) := ⟨h.out.cons_cons _⟩
instance subApp {A L' L : Chunk} [h : SubC L' L] : SubC (A ++ L') (A ++ L) := ⟨List.Sublist.append (List.Sublist.refl A) h.out⟩
instance (priority := low) subNil {L : Chunk} : SubC [] L := ⟨List.nil_sublist L⟩
theorem SubC.mem {L' L : Chunk} [h : SubC L' L] : ∀ p ∈ L', p ∈ L := fun _ hp => h.out.subset hp
theorem St.upd {w0 w : World} {L L' : Chunk} {b : Nat} {o' : Obj} (h : St w0 w L) (hu : UpdC L b o' L') (w' : World) (hos : w'.os = w.os) (hout : w'.output = w.output)
  (hb : (∃ o, w.heap[b]? = some o) → w'.heap[b]? = some o') (hne : ∀ k, k ≠ b → w'.heap[k]? = w.heap[k]?) : St w0 w' L' := by
 obtain ⟨A, B, o, rfl, rfl⟩ := hu.out
 have hnd := h.nodup
 refine ⟨hos.trans h.os, hout.trans h.out, by simpa using hnd, fun k x hk => ?_⟩
 have hmem : (b, o) ∈ A ++ (b, o) :: B := by simp
 by_cases e : k = b
 ·subst e
  have hx : x = o' := by
   simp only [List.map_append, List.map_cons] at hnd
   rw [List.nodup_append] at hnd
   obtain ⟨_, h2, h3⟩ := hnd
   rw [List.nodup_cons] at h2
   rcases List.mem_append.1 hk with hk | hk
   ·exact absurd rfl (h3 _ (List.mem_map.2 ⟨(_, x), hk, rfl⟩) _ (List.mem_cons_self ..))
   ·rcases List.mem_cons.1 hk with hk | hk
    ·simpa using hk
    ·exact absurd (List.mem_map.2 ⟨(_, x), hk, rfl⟩) h2.1
  rw [hx]
  exact hb ⟨o, h.pn _ o hmem⟩
 ·rw [hne k e]
  refine h.pn k x ?_
  rcases List.mem_append.1 hk with hk | hk
  ·exact List.mem_append_left _ hk
  ·rcases List.mem_cons.1 hk with hk | hk
   ·exact absurd (by simpa using congrArg Prod.fst hk) e
   ·exact List.mem_append_right _ (List.mem_cons_of_mem _ hk)
theorem St.alloc {w0 w : World} {L : Chunk} (h : St w0 w L) (o : Obj) : St w0 { w with heap := w.heap.push o } ((w.heap.size, o) :: L) := by
 have hlt : ∀ k x, (k, x) ∈ L → k < w.heap.size := fun k x hk => (Array.getElem?_eq_some_iff.1 (h.pn k x hk)).1
 refine ⟨h.os, h.out, ?_, fun k x hk => ?_⟩
 ·simp only [List.map_cons, List.nodup_cons]
  refine ⟨fun hm => ?_, h.nodup⟩
  obtain ⟨⟨k, x⟩, hk, e⟩ := List.mem_map.1 hm
  have := hlt k x hk
  simp at e
  omega
 ·rcases List.mem_cons.1 hk with hk | hk
  ·cases hk; simp
  ·show (w.heap.push o)[k]? = some x
   rw [Array.getElem?_push, if_neg (by have := hlt k x hk; omega)]
   exact h.pn k x hk
class Und (P : Program) (t : TypeId) (d : outParam TypeDesc) : Prop where out : P.underlying t = some d
class Agg (P : Program) (t : TypeId) (b : outParam Bool) : Prop where out : ∀ w, (isAgg t).run P w = .ok b w
class Siz (P : Program) (t : TypeId) (n : outParam Nat) : Prop where out : ∀ w, (sizeOf t).run P w = .ok n w
class Zer (P : Program) (t : TypeId) (z : outParam Value) : Prop where out : ∀ w, (zeroValue t).run P w = .ok z w
class Byt (P : Program) (t : TypeId) (n : outParam Nat) : Prop where out : ∃ i, P.info? t = some i ∧ i.bytes = n
class Fld (P : Program) (s : TypeId) (i : Nat) (off : outParam Nat) : Prop where
 out : ∃ fs f, P.underlying s = some (.struct fs) ∧ fs[i]? = some f ∧ f.offset = off ∧ ∀ w, ∃ n, (sizeOf f.type).run P w = .ok (n + 1) w
class NthL (l : List Value) (k : Nat) (v : outParam Value) : Prop where out : l[k]? = some v
instance nthLHere {l : List Value} {x : Value} : NthL (x :: l) 0 x := ⟨rfl⟩
instance nthLThere {l : List Value} {x v : Value} {k : Nat} [h : NthL l k v] : NthL (x :: l) (k + 1) v := ⟨by simpa using h.out⟩
class Nth (c : Array Value) (k : Nat) (v : outParam Value) : Prop where out : c[k]? = some v
instance nthList {l : List Value} {k : Nat} {v : Value} [h : NthL l k v] : Nth l.toArray k v := ⟨by simpa using h.out⟩
class SetL (l : List Value) (k : Nat) (v : Value) (l' : outParam (List Value)) : Prop where out : k < l.length ∧ l.set k v = l'
instance setLHere {l : List Value} {x v : Value} : SetL (x :: l) 0 v (v :: l) := ⟨by simp, rfl⟩
instance setLThere {l l' : List Value} {x v : Value} {k : Nat} [h : SetL l k v l'] : SetL (x :: l) (k + 1) v (x :: l') := ⟨by simpa using h.out.1, by simp [h.out.2]⟩
class TakeL (l : List Value) (n : Nat) (l' : outParam (List Value)) : Prop where out : n ≤ l.length ∧ l.take n = l'
instance takeL0 {l : List Value} : TakeL l 0 [] := ⟨by simp, rfl⟩
instance takeLS {l l' : List Value} {x : Value} {n : Nat} [h : TakeL l n l'] : TakeL (x :: l) (n + 1) (x :: l') := ⟨by simpa using h.out.1, by simp [h.out.2]⟩
class CutL (l : List Value) (k n : Nat) (l' : outParam (List Value)) : Prop where out : k + n ≤ l.length ∧ (l.drop k).take n = l'
instance cutL0 {l l' : List Value} {n : Nat} [h : TakeL l n l'] : CutL l 0 n l' := ⟨by simpa using h.out.1, by simpa using h.out.2⟩
instance cutLS {l l' : List Value} {x : Value} {k n : Nat} [h : CutL l k n l'] : CutL (x :: l) (k + 1) n l' := ⟨by have := h.out.1; simp; omega, by simpa using h.out.2⟩
class PutL (l : List Value) (k : Nat) (vs : List Value) (l' : outParam (List Value)) : Prop where out : k + vs.length ≤ l.length ∧ l.take k ++ vs ++ l.drop (k + vs.length) = l'
instance putLNil {l : List Value} : PutL l 0 [] l := ⟨by simp, by simp⟩
instance putLCons {l l' : List Value} {x v : Value} {vs : List Value} [h : PutL l 0 vs l'] : PutL (x :: l) 0 (v :: vs) (v :: l') := ⟨by
 have := h.out.1; simp at this ⊢; omega, by have := h.out.2; simp at this ⊢; exact this⟩
instance putLS {l l' : List Value} {x : Value} {vs : List Value} {k : Nat} [h : PutL l k vs l'] : PutL (x :: l) (k + 1) vs (x :: l') := ⟨by
 have := h.out.1; simp; omega, by
 have := h.out.2
 have e : k + 1 + vs.length = (k + vs.length) + 1 := by omega
 simp only [e, List.take_succ_cons, List.drop_succ_cons, List.cons_append, this]⟩
class Sng (v : Value) : Prop where out : v.cells = #[v] ∧ (∀ x, v ≠ .agg x) ∧ (∀ x, v ≠ .tuple x)
instance {b : Bool} : Sng (.bool b) := ⟨rfl, by simp, by simp⟩
instance {k : IntKind} {i : Int} : Sng (.int k i) := ⟨rfl, by simp, by simp⟩
instance {s : ByteArray} : Sng (.string s) := ⟨rfl, by simp, by simp⟩
instance {a : Option Addr} : Sng (.pointer a) := ⟨rfl, by simp, by simp⟩
instance {a : Option Addr} {n c : Nat} : Sng (.slice a n c) := ⟨rfl, by simp, by simp⟩
instance {r : Option Nat} : Sng (.map r) := ⟨rfl, by simp, by simp⟩
instance {f : Fn} {x y : Array Value} : Sng (.func f x y) := ⟨rfl, by simp, by simp⟩
instance : Sng .nilFunc := ⟨rfl, by simp, by simp⟩
instance {t : TypeId} {v : Value} : Sng (.iface t v) := ⟨rfl, by simp, by simp⟩
instance : Sng .nilIface := ⟨rfl, by simp, by simp⟩
class AddN (a b : Nat) (c : outParam Nat) : Prop where out : a + b = c
instance (priority := high) addZero {a : Nat} : AddN a 0 a := ⟨rfl⟩
instance (priority := high) zeroAdd {a : Nat} : AddN 0 a a := ⟨Nat.zero_add a⟩
instance addN {a b : Nat} : AddN a b (a + b) := ⟨rfl⟩
class Op1 (P : Program) (ρ : Env) (L : Chunk) (op : Op) (ty : TypeId) (v : outParam Value) : Prop where yl : Yl P ρ L op ty v
section
variable {P : Program} {ρ : Env} {L : Chunk} {ty : TypeId}
theorem run_load {w : World} {b k : Nat} {c : Array Value} {e : TypeId} {fr : Nat × Nat} {v : Value} (h : w.heap[b]? = some (.cells c e fr)) (hk : c[k]? = some v) :
  (load ⟨b, k, none⟩).run P w = .ok v w := by
 have hc : w.cell? ⟨b, k, none⟩ = some v := by unfold World.cell?; simp [h, hk]
 simp only [load, Sem.run, hc]
instance op1Move {x : Operand} {v : Value} [h : EvO ρ x v] : Op1 P ρ L (.move x) ty v := ⟨fun c h => (by cases h), fun w o ho hty hp => by
 unfold execOp; simp only [ho, h.out]; rfl⟩
instance op1Assign {x : Operand} {v : Value} [h : EvO ρ x v] : Op1 P ρ L (.assign x) ty v := ⟨fun c h => (by cases h), fun w o ho hty hp => by
 unfold execOp; simp only [ho, h.out]; rfl⟩
class Ite (b : Bool) (x y : Value) (v : outParam Value) : Prop where out : (if b then x else y) = v
instance iteT {x y : Value} : Ite true x y x := ⟨rfl⟩
instance iteF {x y : Value} : Ite false x y y := ⟨rfl⟩
instance op1Pick {c x y : Operand} {b : Bool} {vx vy v : Value} [hc : EvO ρ c (.bool b)] [hx : EvO ρ x vx] [hy : EvO ρ y vy] [hi : Ite b vx vy v] : Op1 P ρ L (.pick c x y) ty v := ⟨fun c h => (by cases h), fun w o ho hty hp => by
 unfold execOp; simp only [ho, hc.out, hx.out, hy.out, asBool]
 rw [← hi.out]; cases b <;> rfl⟩
instance op1Load {t : TypeId} {x : Operand} {b k : Nat} {c : Array Value} {e : TypeId} {fr : Nat × Nat} {v : Value}
  [hx : EvO ρ x (.pointer (some ⟨b, k, none⟩))] [ha : Agg P t false] [hb : InC L b (.cells c e fr)] [hk : Nth c k v] : Op1 P ρ L (.load t x) ty v := ⟨fun c h => (by cases h), fun w o ho hty hp => by
 unfold execOp
 simp only [ho, hx.out, Instr.loadAt, Instr.sureAddr, loadVar, Sem.run_bind, Sem.run_pure, Result.andThen_ok, ha.out, Bool.false_eq_true, if_false, run_load (hp _ _ hb.out) hk.out]⟩
theorem run_loadCellsFrom {w : World} {b : Nat} {c : Array Value} {e : TypeId} {fr : Nat × Nat} (h : w.heap[b]? = some (.cells c e fr)) (k : Nat) : ∀ (n i : Nat) (acc : Array Value), k + i + n ≤ c.size →
  (loadCellsFrom ⟨b, k, none⟩ i n acc).run P w = .ok (acc ++ c.extract (k + i) (k + i + n)) w
 | 0, i, acc, _ => by simp [loadCellsFrom, Sem.run_pure]; omega
 | n + 1, i, acc, hle => by
  have hlt : k + i < c.size := by omega
  have hadd : (⟨b, k, none⟩ : Addr).add i = ⟨b, k + i, none⟩ := by unfold Addr.add; split <;> simp_all
  simp only [loadCellsFrom, hadd, Sem.run_bind, run_load h (Array.getElem?_eq_getElem hlt), Result.andThen_ok]
  rw [run_loadCellsFrom h k n (i + 1) _ (by omega)]
  congr 1
  apply Array.ext'
  simp only [Array.toList_append, Array.toList_push, Array.toList_extract, List.extract_eq_take_drop, List.append_assoc]
  congr 1
  have e1 : k + (i + 1) + n - (k + (i + 1)) = n := by omega
  have e2 : k + i + (n + 1) - (k + i) = n + 1 := by omega
  rw [e1, e2, List.drop_eq_getElem_cons (i := k + i) (by simpa using hlt)]
  simp [Nat.add_assoc]
instance op1LoadAgg {t : TypeId} {x : Operand} {b k n : Nat} {l l' : List Value} {e : TypeId} {fr : Nat × Nat}
  [hx : EvO ρ x (.pointer (some ⟨b, k, none⟩))] [ha : Agg P t true] [hz : Siz P t n] [hb : InC L b (.cells l.toArray e fr)] [hk : CutL l k n l'] : Op1 P ρ L (.load t x) ty (.agg l'.toArray) := ⟨fun c h => (by cases h), fun w o ho hty hp => by
 unfold execOp
 have h1 := run_loadCellsFrom (P := P) (hp _ _ hb.out) k n 0 #[] (by simpa using hk.out.1)
 have h2 : (#[] : Array Value) ++ l.toArray.extract (k + 0) (k + 0 + n) = l'.toArray := by
  apply Array.ext'
  rw [← hk.out.2]
  simp [List.extract_eq_take_drop]
 rw [h2] at h1
 simp only [ho, hx.out, Instr.loadAt, Instr.sureAddr, loadVar, Sem.run_bind, Sem.run_pure, Result.andThen_ok, ha.out, if_true, hz.out, loadCells, h1]⟩
instance op1FieldAddr {s : TypeId} {x : Operand} {i b k off k' : Nat} [hx : EvO ρ x (.pointer (some ⟨b, k, none⟩))] [hf : Fld P s i off] [hk : AddN k off k'] :
  Op1 P ρ L (.fieldAddr s x i) ty (.pointer (some ⟨b, k', none⟩)) := ⟨fun c h => (by cases h), fun w o ho hty hp => by
 obtain ⟨fs, f, h1, h2, h3, h4⟩ := hf.out
 obtain ⟨n, h4⟩ := h4 w
 unfold execOp
 have hadd : (⟨b, k, none⟩ : Addr).add f.offset = ⟨b, k', none⟩ := by rw [← hk.out, h3]; unfold Addr.add; split <;> simp_all
 simp only [ho, hx.out, Instr.fieldAt, Sem.run_bind, run_underlying h1, Result.andThen_ok, h2, Instr.sureAddr, Sem.run_pure, fieldPlace, h4, hadd, Nat.add_eq_zero_iff, Nat.succ_ne_self, and_false, if_false]⟩
instance op1Extract {x : Operand} {i : Nat} {l : List Value} {v : Value} [hx : EvO ρ x (.tuple l.toArray)] [hn : NthL l i v] : Op1 P ρ L (.extract x i) ty v := ⟨fun c h => (by cases h), fun w o ho hty hp => by
 unfold execOp
 have : l.toArray[i]? = some v := by simpa using hn.out
 simp only [ho, hx.out, Instr.extract, this, Sem.run_bind, Sem.run_pure, Result.andThen_ok]⟩
instance op1NilCheck {x : Operand} {a : Addr} [hx : EvO ρ x (.pointer (some a))] : Op1 P ρ L (.nilCheck x) ty (.pointer (some a)) := ⟨fun c h => (by cases h), fun w o ho hty hp => by
 unfold execOp; simp only [ho, hx.out]; rfl⟩
end
end Go.Pw

namespace Go.Pw
section
variable {P : Program} {ρ : Env} {L : Chunk} {ty : TypeId}
theorem yl_of_run {op : Op} {v : Value} (hd : ∀ c, op ≠ .defer c) (h : ∀ w o, o.op = op → o.type = ty → Pn w L → (execOp (ev ρ) o).run P w = .ok (.value v) w) : Yl P ρ L op ty v := ⟨hd, h⟩
instance op1Add {t yt : TypeId} {x y : Operand} {k : IntKind} {a b : Int} [hx : EvO ρ x (.int k a)] [hy : EvO ρ y (.int k b)] : Op1 P ρ L (.binOp .add t x y yt) ty (.int k (k.wrap (a + b))) :=
 ⟨yl_of_run (fun c h => (by cases h)) fun w o ho _ _ => by unfold execOp; simp [ho, hx.out, hy.out, eqGuard, binOp, Op.intArith]⟩
instance op1Sub {t yt : TypeId} {x y : Operand} {k : IntKind} {a b : Int} [hx : EvO ρ x (.int k a)] [hy : EvO ρ y (.int k b)] : Op1 P ρ L (.binOp .sub t x y yt) ty (.int k (k.wrap (a - b))) :=
 ⟨yl_of_run (fun c h => (by cases h)) fun w o ho _ _ => by unfold execOp; simp [ho, hx.out, hy.out, eqGuard, binOp, Op.intArith]⟩
instance op1Mul {t yt : TypeId} {x y : Operand} {k : IntKind} {a b : Int} [hx : EvO ρ x (.int k a)] [hy : EvO ρ y (.int k b)] : Op1 P ρ L (.binOp .mul t x y yt) ty (.int k (k.wrap (a * b))) :=
 ⟨yl_of_run (fun c h => (by cases h)) fun w o ho _ _ => by unfold execOp; simp [ho, hx.out, hy.out, eqGuard, binOp, Op.intArith]⟩
theorem yl_quo {t yt : TypeId} {x y : Operand} {k : IntKind} {a b : Int} (hx : EvO ρ x (.int k a)) (hy : EvO ρ y (.int k b)) (hb : b ≠ 0) : Yl P ρ L (.binOp .quo t x y yt) ty (.int k (k.wrap (a.tdiv b))) :=
 yl_of_run (fun c h => (by cases h)) fun w o ho _ _ => by unfold execOp; simp [ho, hx.out, hy.out, eqGuard, binOp, Op.intDiv, hb]
theorem yl_rem {t yt : TypeId} {x y : Operand} {k : IntKind} {a b : Int} (hx : EvO ρ x (.int k a)) (hy : EvO ρ y (.int k b)) (hb : b ≠ 0) : Yl P ρ L (.binOp .rem t x y yt) ty (.int k (a.tmod b)) :=
 yl_of_run (fun c h => (by cases h)) fun w o ho _ _ => by unfold execOp; simp [ho, hx.out, hy.out, eqGuard, binOp, Op.intDiv, hb]
instance op1Quo {t yt : TypeId} {x y : Operand} {k : IntKind} {a b : Int} [hx : EvO ρ x (.int k a)] [hy : EvO ρ y (.int k b)] [hb : IntNe0 b] : Op1 P ρ L (.binOp .quo t x y yt) ty (.int k (k.wrap (a.tdiv b))) :=
 ⟨yl_quo hx hy hb.ne⟩
instance op1Rem {t yt : TypeId} {x y : Operand} {k : IntKind} {a b : Int} [hx : EvO ρ x (.int k a)] [hy : EvO ρ y (.int k b)] [hb : IntNe0 b] : Op1 P ρ L (.binOp .rem t x y yt) ty (.int k (a.tmod b)) :=
 ⟨yl_rem hx hy hb.ne⟩
def bitsV (op : BinOp) (k : IntKind) (x y : Int) : Int :=
 let a := BitVec.ofInt k.bits x
 let b := BitVec.ofInt k.bits y
 match op with
 | .and => k.wrap (a &&& b).toNat
 | .or => k.wrap (a ||| b).toNat
 | .xor => k.wrap (a ^^^ b).toNat
 | _ => k.wrap (a &&& ~~~b).toNat
instance op1And {t yt : TypeId} {x y : Operand} {k : IntKind} {a b : Int} [hx : EvO ρ x (.int k a)] [hy : EvO ρ y (.int k b)] : Op1 P ρ L (.binOp .and t x y yt) ty (.int k (bitsV .and k a b)) :=
 ⟨yl_of_run (fun c h => (by cases h)) fun w o ho _ _ => by unfold execOp; simp [ho, hx.out, hy.out, eqGuard, binOp, Op.intBits, bitsV]⟩
instance op1Or {t yt : TypeId} {x y : Operand} {k : IntKind} {a b : Int} [hx : EvO ρ x (.int k a)] [hy : EvO ρ y (.int k b)] : Op1 P ρ L (.binOp .or t x y yt) ty (.int k (bitsV .or k a b)) :=
 ⟨yl_of_run (fun c h => (by cases h)) fun w o ho _ _ => by unfold execOp; simp [ho, hx.out, hy.out, eqGuard, binOp, Op.intBits, bitsV]⟩
instance op1Xor {t yt : TypeId} {x y : Operand} {k : IntKind} {a b : Int} [hx : EvO ρ x (.int k a)] [hy : EvO ρ y (.int k b)] : Op1 P ρ L (.binOp .xor t x y yt) ty (.int k (bitsV .xor k a b)) :=
 ⟨yl_of_run (fun c h => (by cases h)) fun w o ho _ _ => by unfold execOp; simp [ho, hx.out, hy.out, eqGuard, binOp, Op.intBits, bitsV]⟩
theorem yl_shl {t yt : TypeId} {x y : Operand} {k j : IntKind} {a b : Int} (hx : EvO ρ x (.int k a)) (hy : EvO ρ y (.int j b)) (hb : 0 ≤ b) : Yl P ρ L (.binOp .shl t x y yt) ty (.int k (k.wrap (a * 2 ^ (min b.toNat k.bits)))) :=
 yl_of_run (fun c h => (by cases h)) fun w o ho _ _ => by
  have : ¬ b < 0 := by omega
  unfold execOp; simp [ho, hx.out, hy.out, eqGuard, binOp, Op.shift, this]
theorem yl_shr {t yt : TypeId} {x y : Operand} {k j : IntKind} {a b : Int} (hx : EvO ρ x (.int k a)) (hy : EvO ρ y (.int j b)) (hb : 0 ≤ b) : Yl P ρ L (.binOp .shr t x y yt) ty (.int k (a.fdiv (2 ^ (min b.toNat k.bits)))) :=
 yl_of_run (fun c h => (by cases h)) fun w o ho _ _ => by
  have : ¬ b < 0 := by omega
  unfold execOp; simp [ho, hx.out, hy.out, eqGuard, binOp, Op.shift, this]
theorem beq_dec (a b : Int) : (a == b) = decide (a = b) := by by_cases h : a = b <;> simp [h]
theorem bne_dec (a b : Int) : (a != b) = decide (a ≠ b) := by by_cases h : a = b <;> simp [h]
instance op1Eql {t yt : TypeId} {x y : Operand} {k : IntKind} {a b : Int} [hx : EvO ρ x (.int k a)] [hy : EvO ρ y (.int k b)] : Op1 P ρ L (.binOp .eql t x y yt) ty (.bool (decide (a = b))) :=
 ⟨yl_of_run (fun c h => (by cases h)) fun w o ho _ _ => by unfold execOp; simp [ho, hx.out, hy.out, eqGuard, binOp, Op.intCmp, beq_dec]⟩
instance op1Neq {t yt : TypeId} {x y : Operand} {k : IntKind} {a b : Int} [hx : EvO ρ x (.int k a)] [hy : EvO ρ y (.int k b)] : Op1 P ρ L (.binOp .neq t x y yt) ty (.bool (decide (a ≠ b))) :=
 ⟨yl_of_run (fun c h => (by cases h)) fun w o ho _ _ => by unfold execOp; simp [ho, hx.out, hy.out, eqGuard, binOp, Op.intCmp, bne_dec]⟩
instance op1Lss {t yt : TypeId} {x y : Operand} {k : IntKind} {a b : Int} [hx : EvO ρ x (.int k a)] [hy : EvO ρ y (.int k b)] : Op1 P ρ L (.binOp .lss t x y yt) ty (.bool (decide (a < b))) :=
 ⟨yl_of_run (fun c h => (by cases h)) fun w o ho _ _ => by unfold execOp; simp [ho, hx.out, hy.out, eqGuard, binOp, Op.intCmp]⟩
instance op1Leq {t yt : TypeId} {x y : Operand} {k : IntKind} {a b : Int} [hx : EvO ρ x (.int k a)] [hy : EvO ρ y (.int k b)] : Op1 P ρ L (.binOp .leq t x y yt) ty (.bool (decide (a ≤ b))) :=
 ⟨yl_of_run (fun c h => (by cases h)) fun w o ho _ _ => by unfold execOp; simp [ho, hx.out, hy.out, eqGuard, binOp, Op.intCmp]⟩
instance op1Gtr {t yt : TypeId} {x y : Operand} {k : IntKind} {a b : Int} [hx : EvO ρ x (.int k a)] [hy : EvO ρ y (.int k b)] : Op1 P ρ L (.binOp .gtr t x y yt) ty (.bool (decide (b < a))) :=
 ⟨yl_of_run (fun c h => (by cases h)) fun w o ho _ _ => by unfold execOp; simp [ho, hx.out, hy.out, eqGuard, binOp, Op.intCmp]⟩
instance op1Geq {t yt : TypeId} {x y : Operand} {k : IntKind} {a b : Int} [hx : EvO ρ x (.int k a)] [hy : EvO ρ y (.int k b)] : Op1 P ρ L (.binOp .geq t x y yt) ty (.bool (decide (b ≤ a))) :=
 ⟨yl_of_run (fun c h => (by cases h)) fun w o ho _ _ => by unfold execOp; simp [ho, hx.out, hy.out, eqGuard, binOp, Op.intCmp]⟩
class NotB (b : Bool) (c : outParam Bool) : Prop where out : (!b) = c
instance (priority := high) : NotB true false := ⟨rfl⟩
instance (priority := high) : NotB false true := ⟨rfl⟩
instance (priority := low) {b : Bool} : NotB b (!b) := ⟨rfl⟩
instance op1Not {t : TypeId} {x : Operand} {b c : Bool} [hx : EvO ρ x (.bool b)] [hn : NotB b c] : Op1 P ρ L (.unOp .not t x) ty (.bool c) :=
 ⟨yl_of_run (fun c h => (by cases h)) fun w o ho _ _ => by unfold execOp; simp [ho, hx.out, Op.unary, ← hn.out]⟩
instance op1Neg {t : TypeId} {x : Operand} {k : IntKind} {a : Int} [hx : EvO ρ x (.int k a)] : Op1 P ρ L (.unOp .neg t x) ty (.int k (k.wrap (0 - a))) :=
 ⟨yl_of_run (fun c h => (by cases h)) fun w o ho _ _ => by unfold execOp; simp [ho, hx.out, Op.unary, Op.intArith]⟩
instance op1ConvInt {s d : TypeId} {x : Operand} {sd : TypeDesc} {j k : IntKind} {a : Int} [hs : Und P s sd] [hd : Und P d (.int k)] [hx : EvO ρ x (.int j a)] : Op1 P ρ L (.convert s d x) ty (.int k (k.wrap a)) :=
 ⟨yl_of_run (fun c h => (by cases h)) fun w o ho _ _ => by unfold execOp; simp [ho, hx.out, convert, run_underlying hs.out, run_underlying hd.out, Conv.intToInt]⟩
instance op1MakeFunc {fn : Fn} {f c : List Operand} {vf vc : List Value} [hf : EvL ρ f vf] [hc : EvL ρ c vc] : Op1 P ρ L (.makeFunc fn f.toArray c.toArray) ty (.func fn vf.toArray vc.toArray) :=
 ⟨yl_of_run (fun c h => (by cases h)) fun w o ho _ _ => by unfold execOp; simp [ho, Instr.makeFunc, hf.out, hc.out]⟩
class NotIface (d : TypeDesc) : Prop where out : ∀ ms, d ≠ .interface ms
instance {k : IntKind} : NotIface (.int k) := ⟨by simp⟩
instance : NotIface .string := ⟨by simp⟩
instance : NotIface .bool := ⟨by simp⟩
instance {e : TypeId} : NotIface (.pointer e) := ⟨by simp⟩
instance {f : Array Field} : NotIface (.struct f) := ⟨by simp⟩
instance op1MakeIface {t : TypeId} {x : Operand} {d : TypeDesc} {v : Value} [ht : Und P t d] [hn : NotIface d] [hx : EvO ρ x v] : Op1 P ρ L (.makeInterface t x) ty (.iface t v) :=
 ⟨yl_of_run (fun c h => (by cases h)) fun w o ho _ _ => by
  unfold execOp
  have := hn.out
  simp only [ho, hx.out, Instr.makeInterface, Sem.run_bind, run_underlying ht.out, Result.andThen_ok]
  cases d <;> simp_all⟩
instance op1Len {x : Operand} {t e : TypeId} {a : Option Addr} {n c : Nat} [ht : Und P t (.slice e)] [hx : EvO ρ x (.slice a n c)] : Op1 P ρ L (.call { callee := .builtin .len, args := #[x], argTypes := #[t] }) ty (.int .i64 n) :=
 ⟨yl_of_run (fun c h => (by cases h)) fun w o ho _ _ => by unfold execOp; simp [ho, resolve, invoke, builtin, hx.out, Builtin.len_, run_underlying ht.out, goInt]⟩
instance op1LenStr {x : Operand} {t : TypeId} {s : ByteArray} [ht : Und P t .string] [hx : EvO ρ x (.string s)] : Op1 P ρ L (.call { callee := .builtin .len, args := #[x], argTypes := #[t] }) ty (.int .i64 s.size) :=
 ⟨yl_of_run (fun c h => (by cases h)) fun w o ho _ _ => by unfold execOp; simp [ho, resolve, invoke, builtin, hx.out, Builtin.len_, run_underlying ht.out, goInt]⟩
instance op1Cap {x : Operand} {t e : TypeId} {a : Option Addr} {n c : Nat} [ht : Und P t (.slice e)] [hx : EvO ρ x (.slice a n c)] : Op1 P ρ L (.call { callee := .builtin .cap, args := #[x], argTypes := #[t] }) ty (.int .i64 c) :=
 ⟨yl_of_run (fun c h => (by cases h)) fun w o ho _ _ => by unfold execOp; simp [ho, resolve, invoke, builtin, hx.out, Builtin.cap_, run_underlying ht.out, goInt]⟩
theorem yl_indexAddr {t e : TypeId} {x i : Operand} {b k n c sz k' : Nat} {kk : IntKind} {j : Int} (ht : Und P t (.slice e)) (hz : Siz P e sz) (hx : EvO ρ x (.slice (some ⟨b, k, none⟩) n c)) (hi : EvO ρ i (.int kk j))
  (h0 : 0 ≤ j) (h1 : j < n) (hk : k + j.toNat * sz = k') : Yl P ρ L (.indexAddr t x i) ty (.pointer (some ⟨b, k', none⟩)) :=
 yl_of_run (fun c h => (by cases h)) fun w o ho _ _ => by
  have hadd : (⟨b, k, none⟩ : Addr).add (j.toNat * sz) = ⟨b, k', none⟩ := by rw [← hk]; unfold Addr.add; split <;> simp_all
  unfold execOp
  simp [ho, hx.out, hi.out, Instr.indexAt, asIntOf, run_underlying ht.out, h0, h1, hz.out, hadd]
theorem yl_indexAddrArr {t e : TypeId} {x i : Operand} {b k n sz k' : Nat} {kk : IntKind} {j : Int} (ht : Und P t (.array n e)) (hz : Siz P e sz) (hx : EvO ρ x (.pointer (some ⟨b, k, none⟩))) (hi : EvO ρ i (.int kk j))
  (h0 : 0 ≤ j) (h1 : j < n) (hk : k + j.toNat * sz = k') : Yl P ρ L (.indexAddr t x i) ty (.pointer (some ⟨b, k', none⟩)) :=
 yl_of_run (fun c h => (by cases h)) fun w o ho _ _ => by
  have hadd : (⟨b, k, none⟩ : Addr).add (j.toNat * sz) = ⟨b, k', none⟩ := by rw [← hk]; unfold Addr.add; split <;> simp_all
  unfold execOp
  simp [ho, hx.out, hi.out, Instr.indexAt, asIntOf, run_underlying ht.out, h0, h1, hz.out, hadd, Instr.sureAddr]
end
end Go.Pw

namespace Go.Pw
def FnP (P : Program) (f : FuncId) (args : List Value) (L : Chunk) (Φ : Value → Chunk → Prop) (Ψ : List PanicEntry → Chunk → Prop) : Prop := ∀ w0, Spec P w0 f args L Φ Ψ
abbrev Fn1 (P : Program) (f : FuncId) (args : List Value) (L : Chunk) (Φ : Value → Chunk → Prop) : Prop := FnP P f args L Φ noPanic
theorem FnP.mono {P : Program} {f : FuncId} {args : List Value} {L : Chunk} {Φ Φ' : Value → Chunk → Prop} {Ψ Ψ' : List PanicEntry → Chunk → Prop}
  (h : FnP P f args L Φ Ψ) (h1 : ∀ v L, Φ v L → Φ' v L) (h2 : ∀ c L, Ψ c L → Ψ' c L) : FnP P f args L Φ' Ψ' := fun w0 => (h w0).mono h1 h2
class Cat (a b : List Value) (c : outParam (List Value)) : Prop where out : a ++ b = c
instance (priority := high) catRight {a : List Value} : Cat a [] a := ⟨List.append_nil a⟩
instance catNil {b : List Value} : Cat [] b b := ⟨rfl⟩
instance catCons {x : Value} {a b c : List Value} [h : Cat a b c] : Cat (x :: a) b (x :: c) := ⟨by simp [h.out]⟩
class OpA (P : Program) (ρ : Env) (L : Chunk) (op : Op) (ty : TypeId) (f : outParam (Nat → Value)) (o : outParam Obj) : Prop where
 nd : ∀ c, op ≠ .defer c
 run : ∀ w op', op'.op = op → op'.type = ty → Pn w L → ∃ w', (execOp (ev ρ) op').run P w = .ok (.value (f w.heap.size)) w' ∧ w'.heap = w.heap.push o ∧ w'.os = w.os ∧ w'.output = w.output
class OpU (P : Program) (ρ : Env) (L : Chunk) (op : Op) (ty : TypeId) (L' : outParam Chunk) : Prop where
 nd : ∀ c, op ≠ .defer c
 run : ∀ w0 w op', op'.op = op → op'.type = ty → St w0 w L → ∃ w', (execOp (ev ρ) op').run P w = .ok .skip w' ∧ St w0 w' L'
section
variable {P : Program} {w0 : World} {rd : Option Nat} {n : Nat} {K : Post} {ρ : Env} {ds : List Deferred} {L R : Chunk} {ops : Array Oper} {l : List Oper}
variable {dst : Option Tmp} {d : Nat} {op : Op} {ty : TypeId} {pos : String} {after : Array Edge} {v : Value}
theorem OpA.ef {f : Nat → Value} {o : Obj} (h : OpA P ρ L op ty f o) : Ef P ρ L op ty (fun v L' => ∃ b, v = f b ∧ L' = (b, o) :: L) noPanic :=
 ⟨h.nd, fun w0 w rd a next Q o' ho hty ha hs hn _ => by
  obtain ⟨w', hr, hh, h1, h2⟩ := h.run w o' ho hty hs.pn
  rw [hr]
  have hst := hs.alloc o
  exact hn _ w' ((w.heap.size, o) :: L) ⟨h1.trans hst.os, h2.trans hst.out, hst.nodup, fun k x hk => by rw [hh]; exact hst.pn k x hk⟩ ⟨_, rfl, rfl⟩⟩
theorem OpU.ef {L' : Chunk} (h : OpU P ρ L op ty L') : Ef P ρ L op ty (fun v L'' => v = undef ∧ L'' = L') noPanic :=
 ⟨h.nd, fun w0 w rd a next Q o' ho hty ha hs hn _ => by
  obtain ⟨w', hr, hst⟩ := h.run w0 w o' ho hty hs
  rw [hr]
  exact hn _ w' L' hst ⟨rfl, rfl⟩⟩
theorem OW.p [h : Op1 P ρ L op ty v] (next : OW P w0 rd n ops K l (upd ρ d v) ds L) : OW P w0 rd n ops K (⟨some d, op, ty, pos, after, none⟩ :: l) ρ ds L := OW.val h.yl next
theorem OW.p0 [h : Op1 P ρ L op ty v] (next : OW P w0 rd n ops K l ρ ds L) : OW P w0 rd n ops K (⟨none, op, ty, pos, after, none⟩ :: l) ρ ds L := OW.val h.yl next
theorem OW.y (h : Yl P ρ L op ty v) (next : OW P w0 rd n ops K l (upd ρ d v) ds L) : OW P w0 rd n ops K (⟨some d, op, ty, pos, after, none⟩ :: l) ρ ds L := OW.val h next
@[reducible] def inR : IntKind → Int → Prop
 | .i64, e => -9223372036854775808 ≤ e ∧ e ≤ 9223372036854775807
 | .u64, e => 0 ≤ e ∧ e ≤ 18446744073709551615
 | .i32, e => -2147483648 ≤ e ∧ e ≤ 2147483647
 | .u32, e => 0 ≤ e ∧ e ≤ 4294967295
 | .i16, e => -32768 ≤ e ∧ e ≤ 32767
 | .u16, e => 0 ≤ e ∧ e ≤ 65535
 | .i8, e => -128 ≤ e ∧ e ≤ 127
 | .u8, e => 0 ≤ e ∧ e ≤ 255
theorem wrap_in {k : IntKind} {e : Int} (h : inR k e) : k.wrap e = e := by
 cases k
 ·exact IntWalk.i8_in e h
 ·exact IntWalk.i16_in e h
 ·exact IntWalk.i32_in e h
 ·exact IntWalk.i64_in e h
 ·exact IntWalk.u8_in e h
 ·exact IntWalk.u16_in e h
 ·exact IntWalk.u32_in e h
 ·exact IntWalk.u64_in e h
theorem yl_quoN {t yt : TypeId} {x y : Operand} {k : IntKind} {a b : Int} (hx : EvO ρ x (.int k a)) (hy : EvO ρ y (.int k b)) (h : 0 ≤ a ∧ 0 < b ∧ inR k a) : Yl P ρ L (.binOp .quo t x y yt) ty (.int k (a / b)) := by
 have h1 := yl_quo (P := P) (L := L) (ty := ty) (t := t) (yt := yt) hx hy (by omega)
 have e : a.tdiv b = a / b := Int.tdiv_eq_ediv_of_nonneg h.1
 have h2 : 0 ≤ a / b := Int.ediv_nonneg h.1 (by omega)
 have h3 : a / b ≤ a := Int.ediv_le_self b h.1
 rw [e, wrap_in (by obtain ⟨_, _, h⟩ := h; cases k <;> simp only [inR] at h ⊢ <;> omega)] at h1
 exact h1
theorem yl_remN {t yt : TypeId} {x y : Operand} {k : IntKind} {a b : Int} (hx : EvO ρ x (.int k a)) (hy : EvO ρ y (.int k b)) (h : 0 ≤ a ∧ 0 < b) : Yl P ρ L (.binOp .rem t x y yt) ty (.int k (a % b)) := by
 have h1 := yl_rem (P := P) (L := L) (ty := ty) (t := t) (yt := yt) hx hy (by omega)
 rwa [Int.tmod_eq_emod_of_nonneg h.1] at h1
theorem OW.w {k : IntKind} {e : Int} [h : Op1 P ρ L op ty (.int k (k.wrap e))] (hr : inR k e) (next : OW P w0 rd n ops K l (upd ρ d (.int k e)) ds L) : OW P w0 rd n ops K (⟨some d, op, ty, pos, after, none⟩ :: l) ρ ds L :=
 OW.val (wrap_in hr ▸ h.yl) next
theorem OW.decT {p : Prop} [Decidable p] [h : Op1 P ρ L op ty (.bool (decide p))] (hp : p) (next : OW P w0 rd n ops K l (upd ρ d (.bool true)) ds L) : OW P w0 rd n ops K (⟨some d, op, ty, pos, after, none⟩ :: l) ρ ds L :=
 OW.val (decide_eq_true hp ▸ h.yl) next
theorem OW.decF {p : Prop} [Decidable p] [h : Op1 P ρ L op ty (.bool (decide p))] (hp : ¬ p) (next : OW P w0 rd n ops K l (upd ρ d (.bool false)) ds L) : OW P w0 rd n ops K (⟨some d, op, ty, pos, after, none⟩ :: l) ρ ds L :=
 OW.val (decide_eq_false hp ▸ h.yl) next
theorem OW.dec {p : Prop} [Decidable p] [h : Op1 P ρ L op ty (.bool (decide p))] (ht : p → OW P w0 rd n ops K l (upd ρ d (.bool true)) ds L) (hf : ¬ p → OW P w0 rd n ops K l (upd ρ d (.bool false)) ds L) :
  OW P w0 rd n ops K (⟨some d, op, ty, pos, after, none⟩ :: l) ρ ds L := by
 by_cases hp : p
 ·exact OW.decT hp (ht hp)
 ·exact OW.decF hp (hf hp)
theorem OW.a {f : Nat → Value} {o : Obj} [h : OpA P ρ L op ty f o] (next : ∀ b, OW P w0 rd n ops K l (upd ρ d (f b)) ds ((b, o) :: L)) : OW P w0 rd n ops K (⟨some d, op, ty, pos, after, none⟩ :: l) ρ ds L :=
 OW.eff h.ef (fun v L' ⟨b, h1, h2⟩ => by subst h1 h2; exact next b) (fun _ _ h => h.elim)
theorem OW.u {L' : Chunk} [h : OpU P ρ L op ty L'] (next : OW P w0 rd n ops K l ρ ds L') : OW P w0 rd n ops K (⟨none, op, ty, pos, after, none⟩ :: l) ρ ds L :=
 OW.eff h.ef (fun v L' ⟨h1, h2⟩ => by subst h1 h2; exact next) (fun _ _ h => h.elim)
theorem OW.callP {f : FuncId} {first cap : Array Value} {x : Operand} {args : List Operand} {at_ : Array TypeId} {vs ags a1 : List Value} {Φ : Value → Chunk → Prop} {Ψ : List PanicEntry → Chunk → Prop}
  [hx : EvO ρ x (.func (.func f) first cap)] [he : Entr P f] [hv : EvL ρ args vs] [h1 : Cat first.toList vs a1] [h2 : Cat a1 cap.toList ags] (hs : FnP P f ags L Φ Ψ)
  (next : ∀ v L', Φ v L' → OW P w0 rd n ops K l (updO ρ dst v) ds L') (hp : ∀ ch L', Ψ ch L' → K (.panic ch) ρ ds L') :
  OW P w0 rd n ops K (⟨dst, .call { callee := .value x, args := args.toArray, argTypes := at_ }, ty, pos, after, none⟩ :: l) ρ ds L :=
 OW.eff (Ef.call he hx.out rfl (fun w0 => by
  have e : first.toList ++ (args.toArray.map (ev ρ)).toList ++ cap.toList = ags := by rw [← h2.out, ← h1.out, ← hv.out]; simp
  rw [e]; exact hs w0)) next hp
theorem OW.call {f : FuncId} {first cap : Array Value} {x : Operand} {args : List Operand} {at_ : Array TypeId} {vs ags a1 : List Value} {Φ : Value → Chunk → Prop}
  [hx : EvO ρ x (.func (.func f) first cap)] [he : Entr P f] [hv : EvL ρ args vs] [h1 : Cat first.toList vs a1] [h2 : Cat a1 cap.toList ags] (hs : Fn1 P f ags L Φ)
  (next : ∀ v L', Φ v L' → OW P w0 rd n ops K l (upd ρ d v) ds L') :
  OW P w0 rd n ops K (⟨some d, .call { callee := .value x, args := args.toArray, argTypes := at_ }, ty, pos, after, none⟩ :: l) ρ ds L :=
 OW.callP hs next (fun _ _ h => h.elim)
theorem OW.quo {t yt : TypeId} {x y : Operand} {k : IntKind} {a b : Int} [hx : EvO ρ x (.int k a)] [hy : EvO ρ y (.int k b)] (h : 0 ≤ a ∧ 0 < b ∧ inR k a) (next : OW P w0 rd n ops K l (upd ρ d (.int k (a / b))) ds L) :
  OW P w0 rd n ops K (⟨some d, .binOp .quo t x y yt, ty, pos, after, none⟩ :: l) ρ ds L := OW.val (yl_quoN hx hy h) next
theorem OW.rem {t yt : TypeId} {x y : Operand} {k : IntKind} {a b : Int} [hx : EvO ρ x (.int k a)] [hy : EvO ρ y (.int k b)] (h : 0 ≤ a ∧ 0 < b) (next : OW P w0 rd n ops K l (upd ρ d (.int k (a % b))) ds L) :
  OW P w0 rd n ops K (⟨some d, .binOp .rem t x y yt, ty, pos, after, none⟩ :: l) ρ ds L := OW.val (yl_remN hx hy h) next
theorem OW.drop {L' : Chunk} (hs : L'.Sublist L) (h : OW P w0 rd n ops K l ρ ds L') : OW P w0 rd n ops K l ρ ds L := fun hok a w hr hst => h hok a w hr (hst.drop hs)
class Gd (ops : Array Oper) (ρ : Env) (g : Nat × Bool) (t : outParam Bool) : Prop where out : (yl ops ρ g.1 == some g.2) = t
theorem Gd.of {ops : Array Oper} {j : Nat} {w : Bool} {o : Oper} {t : Nat} {b : Bool} (h1 : ops[j]? = some o) (h2 : o.dst = some t) (h3 : ρ t = .bool b) : Gd ops ρ (j, w) (b == w) := ⟨by
 simp [yl, h1, h2, h3]⟩
theorem Gd.ofUndef {ops : Array Oper} {j : Nat} {w : Bool} {o : Oper} {t : Nat} (h1 : ops[j]? = some o) (h2 : o.dst = some t) (h3 : ρ t = undef) : Gd ops ρ (j, w) false := ⟨by
 simp [yl, h1, h2, h3, undef]⟩
class NthO (l : List Oper) (j : Nat) (t : outParam Nat) : Prop where out : ∃ o, l[j]? = some o ∧ o.dst = some t
instance nthOHere {l : List Oper} {t : Nat} {op : Op} {ty : TypeId} {pos : String} {after : Array Edge} {g : Option (Nat × Bool)} : NthO (⟨some t, op, ty, pos, after, g⟩ :: l) 0 t := ⟨_, rfl, rfl⟩
instance nthOThere {l : List Oper} {t j : Nat} {o : Oper} [h : NthO l j t] : NthO (o :: l) (j + 1) t := ⟨by obtain ⟨o, h1, h2⟩ := h.out; exact ⟨o, by simpa using h1, h2⟩⟩
class EqB (a b : Bool) (c : outParam Bool) : Prop where out : (a == b) = c
instance : EqB true true true := ⟨rfl⟩
instance : EqB false false true := ⟨rfl⟩
instance : EqB true false false := ⟨rfl⟩
instance : EqB false true false := ⟨rfl⟩
instance gdBool {l : List Oper} {j t : Nat} {w b c : Bool} [h1 : NthO l j t] [h2 : Ev ρ t (.bool b)] [h3 : EqB b w c] : Gd l.toArray ρ (j, w) c := ⟨by
 obtain ⟨o, ho, hd⟩ := h1.out
 rw [← h3.out]
 exact (Gd.of (by simpa using ho) hd h2.out).out⟩
instance gdUndef {l : List Oper} {j t : Nat} {w : Bool} [h1 : NthO l j t] [h2 : Ev ρ t (.tuple #[])] : Gd l.toArray ρ (j, w) false := ⟨by
 obtain ⟨o, ho, hd⟩ := h1.out
 exact (Gd.ofUndef (by simpa using ho) hd h2.out).out⟩
theorem OW.gT {g : Nat × Bool} [h : Gd ops ρ g true] (next : OW P w0 rd n ops K (⟨dst, op, ty, pos, after, none⟩ :: l) ρ ds L) : OW P w0 rd n ops K (⟨dst, op, ty, pos, after, some g⟩ :: l) ρ ds L :=
 OW.guarded h.out (fun _ => next) (fun e => by cases e)
theorem OW.gF {g : Nat × Bool} [h : Gd ops ρ g false] (next : OW P w0 rd n ops K l (upd ρ d (.tuple #[])) ds L) : OW P w0 rd n ops K (⟨some d, op, ty, pos, after, some g⟩ :: l) ρ ds L :=
 OW.guarded h.out (fun e => by cases e) (fun _ => next)
theorem OW.gF0 {g : Nat × Bool} [h : Gd ops ρ g false] (next : OW P w0 rd n ops K l ρ ds L) : OW P w0 rd n ops K (⟨none, op, ty, pos, after, some g⟩ :: l) ρ ds L :=
 OW.guarded h.out (fun e => by cases e) (fun _ => next)
def GOk (ops : Array Oper) (ρ : Env) (g : Option (Nat × Bool)) : Prop := g.all (fun g => yl ops ρ g.1 == some g.2) = true
class GdT (ops : Array Oper) (ρ : Env) (g : Option (Nat × Bool)) : Prop where out : GOk ops ρ g
instance : GdT ops ρ none := ⟨rfl⟩
instance {g : Nat × Bool} [h : Gd ops ρ g true] : GdT ops ρ (some g) := ⟨h.out⟩
theorem RW.p' {g : Option (Nat × Bool)} (hg : GOk ops ρ g) (he : isEff ⟨dst, op, ty, pos, after, g⟩ = false) (h : Yl P ρ R op ty v) (next : RW P w0 rd n ops K l R (updO ρ dst v) ds L) : RW P w0 rd n ops K (⟨dst, op, ty, pos, after, g⟩ :: l) R ρ ds L := by
 cases g with
 | none => exact RW.val he h next
 | some g => exact RW.valG hg he h next
theorem RW.p {g : Option (Nat × Bool)} [hg : GdT ops ρ g] [h : Op1 P ρ R op ty v] (he : isEff ⟨some d, op, ty, pos, after, g⟩ = false) (next : RW P w0 rd n ops K l R (upd ρ d v) ds L) : RW P w0 rd n ops K (⟨some d, op, ty, pos, after, g⟩ :: l) R ρ ds L := RW.p' hg.out he h.yl next
theorem RW.p0 {g : Option (Nat × Bool)} [hg : GdT ops ρ g] [h : Op1 P ρ R op ty v] (he : isEff ⟨none, op, ty, pos, after, g⟩ = false) (next : RW P w0 rd n ops K l R ρ ds L) : RW P w0 rd n ops K (⟨none, op, ty, pos, after, g⟩ :: l) R ρ ds L := RW.p' hg.out he h.yl next
theorem RW.y {g : Option (Nat × Bool)} [hg : GdT ops ρ g] (h : Yl P ρ R op ty v) (he : isEff ⟨some d, op, ty, pos, after, g⟩ = false) (next : RW P w0 rd n ops K l R (upd ρ d v) ds L) : RW P w0 rd n ops K (⟨some d, op, ty, pos, after, g⟩ :: l) R ρ ds L := RW.p' hg.out he h next
theorem RW.w {g : Option (Nat × Bool)} [hg : GdT ops ρ g] {k : IntKind} {e : Int} [h : Op1 P ρ R op ty (.int k (k.wrap e))] (hr : inR k e) (he : isEff ⟨some d, op, ty, pos, after, g⟩ = false) (next : RW P w0 rd n ops K l R (upd ρ d (.int k e)) ds L) : RW P w0 rd n ops K (⟨some d, op, ty, pos, after, g⟩ :: l) R ρ ds L :=
 RW.p' hg.out he (wrap_in hr ▸ h.yl) next
theorem RW.decT {g : Option (Nat × Bool)} [hg : GdT ops ρ g] {p : Prop} [Decidable p] [h : Op1 P ρ R op ty (.bool (decide p))] (hp : p) (he : isEff ⟨some d, op, ty, pos, after, g⟩ = false) (next : RW P w0 rd n ops K l R (upd ρ d (.bool true)) ds L) : RW P w0 rd n ops K (⟨some d, op, ty, pos, after, g⟩ :: l) R ρ ds L :=
 RW.p' hg.out he (decide_eq_true hp ▸ h.yl) next
theorem RW.decF {g : Option (Nat × Bool)} [hg : GdT ops ρ g] {p : Prop} [Decidable p] [h : Op1 P ρ R op ty (.bool (decide p))] (hp : ¬ p) (he : isEff ⟨some d, op, ty, pos, after, g⟩ = false) (next : RW P w0 rd n ops K l R (upd ρ d (.bool false)) ds L) : RW P w0 rd n ops K (⟨some d, op, ty, pos, after, g⟩ :: l) R ρ ds L :=
 RW.p' hg.out he (decide_eq_false hp ▸ h.yl) next
theorem RW.dec {g : Option (Nat × Bool)} [hg : GdT ops ρ g] {p : Prop} [Decidable p] [h : Op1 P ρ R op ty (.bool (decide p))] (he : isEff ⟨some d, op, ty, pos, after, g⟩ = false) (ht : p → RW P w0 rd n ops K l R (upd ρ d (.bool true)) ds L) (hf : ¬ p → RW P w0 rd n ops K l R (upd ρ d (.bool false)) ds L) :
  RW P w0 rd n ops K (⟨some d, op, ty, pos, after, g⟩ :: l) R ρ ds L := by
 by_cases hp : p
 ·exact RW.decT hp he (ht hp)
 ·exact RW.decF hp he (hf hp)
theorem RW.gF {g : Nat × Bool} [h : Gd ops ρ g false] (next : RW P w0 rd n ops K l R (upd ρ d (.tuple #[])) ds L) : RW P w0 rd n ops K (⟨some d, op, ty, pos, after, some g⟩ :: l) R ρ ds L := RW.skipG h.out next
theorem RW.gF0 {g : Nat × Bool} [h : Gd ops ρ g false] (next : RW P w0 rd n ops K l R ρ ds L) : RW P w0 rd n ops K (⟨none, op, ty, pos, after, some g⟩ :: l) R ρ ds L := RW.skipG h.out next
theorem RW.a {f : Nat → Value} {o : Obj} {g : Option (Nat × Bool)} [hg : GdT ops ρ g] [h : OpA P ρ L op ty f o] [hR : SubC R L] (he : isEff ⟨some d, op, ty, pos, after, g⟩ = true) (next : ∀ b, RW P w0 rd n ops K l R (upd ρ d (f b)) ds ((b, o) :: L)) : RW P w0 rd n ops K (⟨some d, op, ty, pos, after, g⟩ :: l) R ρ ds L :=
 RW.eff hg.out he h.ef (fun v L' ⟨b, h1, h2⟩ => by subst h1 h2; exact ⟨R, fun _ h => h, fun p hp => List.mem_cons_of_mem _ (hR.mem p hp), next b⟩) (fun _ _ h => h.elim)
theorem RW.u {L' : Chunk} {g : Option (Nat × Bool)} [hg : GdT ops ρ g] [h : OpU P ρ L op ty L'] [hR : SubC R L'] (he : isEff ⟨none, op, ty, pos, after, g⟩ = true) (next : RW P w0 rd n ops K l R ρ ds L') : RW P w0 rd n ops K (⟨none, op, ty, pos, after, g⟩ :: l) R ρ ds L :=
 RW.eff hg.out he h.ef (fun v L' ⟨h1, h2⟩ => by subst h1 h2; exact ⟨R, fun _ h => h, hR.mem, next⟩) (fun _ _ h => h.elim)
theorem RW.callP {f : FuncId} {first cap : Array Value} {x : Operand} {args : List Operand} {at_ : Array TypeId} {vs ags a1 : List Value} {Φ : Value → Chunk → Prop} {Ψ : List PanicEntry → Chunk → Prop} {g : Option (Nat × Bool)}
  [hg : GdT ops ρ g] [hx : EvO ρ x (.func (.func f) first cap)] [he : Entr P f] [hv : EvL ρ args vs] [h1 : Cat first.toList vs a1] [h2 : Cat a1 cap.toList ags] (hs : FnP P f ags L Φ Ψ)
  (next : ∀ v L', Φ v L' → ∃ R', (∀ p ∈ R, p ∈ R') ∧ (∀ p ∈ R', p ∈ L') ∧ RW P w0 rd n ops K l R' (updO ρ dst v) ds L') (hp : ∀ ch L', Ψ ch L' → K (.panic ch) ρ ds L') :
  RW P w0 rd n ops K (⟨dst, .call { callee := .value x, args := args.toArray, argTypes := at_ }, ty, pos, after, g⟩ :: l) R ρ ds L :=
 RW.eff hg.out (by rfl) (Ef.call he hx.out rfl (fun w0 => by
  have e : first.toList ++ (args.toArray.map (ev ρ)).toList ++ cap.toList = ags := by rw [← h2.out, ← h1.out, ← hv.out]; simp
  rw [e]; exact hs w0)) next hp
theorem RW.call {f : FuncId} {first cap : Array Value} {x : Operand} {args : List Operand} {at_ : Array TypeId} {vs ags a1 : List Value} {Φ : Value → Chunk → Prop} {g : Option (Nat × Bool)}
  [hg : GdT ops ρ g] [hx : EvO ρ x (.func (.func f) first cap)] [he : Entr P f] [hv : EvL ρ args vs] [h1 : Cat first.toList vs a1] [h2 : Cat a1 cap.toList ags] (hs : Fn1 P f ags L Φ)
  (next : ∀ v L', Φ v L' → ∃ R', (∀ p ∈ R, p ∈ R') ∧ (∀ p ∈ R', p ∈ L') ∧ RW P w0 rd n ops K l R' (upd ρ d v) ds L') :
  RW P w0 rd n ops K (⟨some d, .call { callee := .value x, args := args.toArray, argTypes := at_ }, ty, pos, after, g⟩ :: l) R ρ ds L :=
 RW.callP hs next (fun _ _ h => h.elim)
theorem RW.quo {t yt : TypeId} {x y : Operand} {k : IntKind} {a b : Int} {g : Option (Nat × Bool)} [hg : GdT ops ρ g] [hx : EvO ρ x (.int k a)] [hy : EvO ρ y (.int k b)] (h : 0 ≤ a ∧ 0 < b ∧ inR k a) (next : RW P w0 rd n ops K l R (upd ρ d (.int k (a / b))) ds L) :
  RW P w0 rd n ops K (⟨some d, .binOp .quo t x y yt, ty, pos, after, g⟩ :: l) R ρ ds L := RW.p' hg.out rfl (yl_quoN hx hy h) next
theorem RW.rem {t yt : TypeId} {x y : Operand} {k : IntKind} {a b : Int} {g : Option (Nat × Bool)} [hg : GdT ops ρ g] [hx : EvO ρ x (.int k a)] [hy : EvO ρ y (.int k b)] (h : 0 ≤ a ∧ 0 < b) (next : RW P w0 rd n ops K l R (upd ρ d (.int k (a % b))) ds L) :
  RW P w0 rd n ops K (⟨some d, .binOp .rem t x y yt, ty, pos, after, g⟩ :: l) R ρ ds L := RW.p' hg.out rfl (yl_remN hx hy h) next
theorem pinAll {Q : Chunk → Prop} {L' : Chunk} [hR : SubC R L'] (h : Q L') : ∃ R', (∀ p ∈ R, p ∈ R') ∧ (∀ p ∈ R', p ∈ L') ∧ Q R' := ⟨L', hR.mem, fun _ h => h, h⟩
theorem pinOld {Q : Chunk → Prop} {L' : Chunk} [hR : SubC R L'] (h : Q R) : ∃ R', (∀ p ∈ R, p ∈ R') ∧ (∀ p ∈ R', p ∈ L') ∧ Q R' := ⟨R, fun _ h => h, hR.mem, h⟩
theorem CW.condT {c : Operand} {x y : Code} [h : EvO ρ c (.bool true)] (next : CW P w0 rd n x K ρ ds L) : CW P w0 rd n (.cond c x y) K ρ ds L := CW.cond h.out (fun _ => next) (fun e => by cases e)
theorem CW.condF {c : Operand} {x y : Code} [h : EvO ρ c (.bool false)] (next : CW P w0 rd n y K ρ ds L) : CW P w0 rd n (.cond c x y) K ρ ds L := CW.cond h.out (fun e => by cases e) (fun _ => next)
variable {next : Env → List Deferred → Chunk → Prop} {id id' : Nat}
theorem thenK_n (h : next ρ ds L) : thenK next K .normal ρ ds L := h
theorem thenK_ret (h : K .ret ρ ds L) : thenK next K .ret ρ ds L := h
theorem thenK_exit (h : K (.exit id) ρ ds L) : thenK next K (.exit id) ρ ds L := h
theorem thenK_goto (h : K (.goto id) ρ ds L) : thenK next K (.goto id) ρ ds L := h
theorem blockK_n (h : K .normal ρ ds L) : blockK id K .normal ρ ds L := h
theorem blockK_ret (h : K .ret ρ ds L) : blockK id K .ret ρ ds L := h
theorem blockK_goto (h : K (.goto id') ρ ds L) : blockK id K (.goto id') ρ ds L := h
theorem blockK_same (h : K .normal ρ ds L) : blockK id K (.exit id) ρ ds L := by simpa [blockK] using h
theorem blockK_other [hn : NeNat id' id] (h : K (.exit id') ρ ds L) : blockK id K (.exit id') ρ ds L := by simpa [blockK, hn.ne] using h
variable {fn : Func} {Φ : Value → Chunk → Prop} {Ψ : List PanicEntry → Chunk → Prop} {e : Exit}
theorem Res.one {t : Tmp} (h : fn.results = #[.tmp t]) [hv : Ev ρ t v] : Res P fn ρ L v := fun tmps w hg _ => by
 simp only [results, h]; simp; rw [← hv.out, ← hg t]; simp
theorem Res.zero (h : fn.results = #[]) : Res P fn ρ L (.tuple #[]) := fun tmps w hg _ => by simp [results, h]
theorem Res.two {t u : Tmp} {v u' : Value} (h : fn.results = #[.tmp t, .tmp u]) [hv : Ev ρ t v] [hu : Ev ρ u u'] : Res P fn ρ L (.tuple #[v, u']) := fun tmps w hg _ => by
 simp only [results, h]; simp; rw [← hv.out, ← hg t, ← hu.out, ← hg u]; simp
theorem Res.three {t u x : Tmp} {v u' x' : Value} (h : fn.results = #[.tmp t, .tmp u, .tmp x]) [hv : Ev ρ t v] [hu : Ev ρ u u'] [hx : Ev ρ x x'] : Res P fn ρ L (.tuple #[v, u', x']) := fun tmps w hg _ => by
 simp only [results, h]; simp; rw [← hv.out, ← hg t, ← hu.out, ← hg u, ← hx.out, ← hg x]; simp
theorem bodyK.ret (hr : Res P fn ρ L v) (h : Φ v L) : bodyK P fn Φ Ψ .ret ρ [] L := ⟨rfl, v, L, List.Sublist.refl L, hr, h⟩
theorem bodyK.nrm (hr : Res P fn ρ L v) (h : Φ v L) : bodyK P fn Φ Ψ .normal ρ [] L := ⟨rfl, v, L, List.Sublist.refl L, hr, h⟩
theorem bodyK.retD (L' : Chunk) [hs : SubC L' L] (hr : Res P fn ρ L v) (h : Φ v L') : bodyK P fn Φ Ψ .ret ρ [] L := ⟨rfl, v, L', hs.out, hr, h⟩
theorem bodyK.nrmD (L' : Chunk) [hs : SubC L' L] (hr : Res P fn ρ L v) (h : Φ v L') : bodyK P fn Φ Ψ .normal ρ [] L := ⟨rfl, v, L', hs.out, hr, h⟩
end
end Go.Pw

namespace Go.Pw
class CellsL (v : Value) (vs : outParam (List Value)) : Prop where out : v.cells = vs.toArray
instance cellsAgg {l : List Value} : CellsL (.agg l.toArray) l := ⟨rfl⟩
instance (priority := low) cellsSng {v : Value} [h : Sng v] : CellsL v [v] := ⟨h.out.1⟩
class LenL (l : List Value) (n : outParam Nat) : Prop where out : l.length = n
instance lenNil : LenL [] 0 := ⟨rfl⟩
instance lenCons {x : Value} {l : List Value} {n : Nat} [h : LenL l n] : LenL (x :: l) (n + 1) := ⟨by simp [h.out]⟩
class Plc (P : Program) (t : TypeId) (ps : outParam (List (Nat × Nat))) : Prop where
 out : ∃ fs, P.underlying t = some (.struct fs) ∧ ∀ w, (fs.mapM fun f => (do pure (f.offset, ← sizeOf f.type) : Sem (Nat × Nat))).run P w = .ok ps.toArray w
class NthP (l : List (Nat × Nat)) (i : Nat) (x : outParam (Nat × Nat)) : Prop where out : l[i]? = some x
instance nthPHere {l : List (Nat × Nat)} {x : Nat × Nat} : NthP (x :: l) 0 x := ⟨rfl⟩
instance nthPThere {l : List (Nat × Nat)} {x y : Nat × Nat} {i : Nat} [h : NthP l i y] : NthP (x :: l) (i + 1) y := ⟨by simpa using h.out⟩
class EvP (ρ : Env) (ps : List (Nat × Operand)) (vs : outParam (List (Nat × Value))) : Prop where out : ps.map (fun (i, x) => (i, ev ρ x)) = vs
instance evpNil {ρ : Env} : EvP ρ [] [] := ⟨rfl⟩
instance evpCons {ρ : Env} {i : Nat} {x : Operand} {ps : List (Nat × Operand)} {v : Value} {vs : List (Nat × Value)} [h : EvO ρ x v] [hs : EvP ρ ps vs] : EvP ρ ((i, x) :: ps) ((i, v) :: vs) := ⟨by simp [h.out, hs.out]⟩
theorem foldl_put (off : Nat) : ∀ (vs : List Value) (j : Nat) (cells : Array Value), off + j + vs.length ≤ cells.size →
  ((vs.zipIdx j).foldl (fun (cs : Array Value) (p : Value × Nat) => cs.setIfInBounds (off + p.2) p.1) cells).toList = cells.toList.take (off + j) ++ vs ++ cells.toList.drop (off + j + vs.length)
 | [], j, cells, _ => by simp
 | v :: vs, j, cells, h => by
  simp only [List.length_cons] at h
  simp only [List.zipIdx_cons, List.foldl_cons]
  rw [foldl_put off vs (j + 1) _ (by simp; omega)]
  have hlt : off + j < cells.toList.length := by simp; omega
  have e1 : off + (j + 1) = off + j + 1 := by omega
  have e2 : off + j + 1 + vs.length = off + j + (v :: vs).length := by simp; omega
  simp only [e1, Array.toList_setIfInBounds]
  rw [e2]
  have h1 : (cells.toList.set (off + j) v).take (off + j + 1) = cells.toList.take (off + j) ++ [v] := by
   rw [List.take_succ_eq_append_getElem (by simpa using hlt)]
   simp [List.take_set_of_le]
  have h2 : (cells.toList.set (off + j) v).drop (off + j + (v :: vs).length) = cells.toList.drop (off + j + (v :: vs).length) := by
   rw [List.drop_set_of_lt (by simp)]
  rw [h1, h2]
  simp
class Fill (ps : List (Nat × Nat)) (cells : List Value) (parts : List (Nat × Value)) (out : outParam (List Value)) : Prop where
 out : Instr.fill (fun i => ps.toArray[i]?) cells.toArray parts = some out.toArray
instance fillNil {ps : List (Nat × Nat)} {cells : List Value} : Fill ps cells [] cells := ⟨rfl⟩
instance fillCons {ps : List (Nat × Nat)} {cells cells' out vs : List Value} {i off n : Nat} {v : Value} {parts : List (Nat × Value)}
  [hp : NthP ps i (off, n)] [hc : CellsL v vs] [hl : LenL vs n] [hput : PutL cells off vs cells'] [hf : Fill ps cells' parts out] : Fill ps cells ((i, v) :: parts) out := ⟨by
 have h1 : ps.toArray[i]? = some (off, n) := by simpa using hp.out
 have h2 : v.cells.size = n := by rw [hc.out]; simp [hl.out]
 have h3 := hput.out.1
 have h4 : (v.cells.zipIdx.foldl (fun cs (c, j) => cs.setIfInBounds (off + j) c) cells.toArray) = cells'.toArray := by
  apply Array.ext'
  rw [hc.out, ← Array.foldl_toList]
  have := foldl_put off vs 0 cells.toArray (by simpa using h3)
  simp only [Nat.add_zero] at this
  rw [← hput.out.2]
  simpa using this
 simp only [Instr.fill, h1]
 rw [if_neg (by rw [h2, ← hl.out]; simp; omega), h4]
 exact hf.out⟩
section
variable {P : Program} {ρ : Env} {L : Chunk} {ty : TypeId}
instance op1Build {t : TypeId} {ps : List (Nat × Nat)} {z out : List Value} {parts : List (Nat × Operand)} {vparts : List (Nat × Value)}
  [hp : Plc P t ps] [hz : Zer P t (.agg z.toArray)] [he : EvP ρ parts vparts] [hf : Fill ps z vparts out] : Op1 P ρ L (.build t parts.toArray) ty (.agg out.toArray) :=
 ⟨yl_of_run (fun c h => (by cases h)) fun w o ho _ _ => by
  obtain ⟨fs, h1, h2⟩ := hp.out
  have h3 : (parts.toArray.map fun (i, x) => (i, ev ρ x)).toList = vparts := by rw [← he.out]; simp
  unfold execOp
  simp only [ho, Instr.build, Sem.run_bind, hz.out, Result.andThen_ok, run_underlying h1, h2, h3, Value.cells, hf.out, Sem.run_pure]⟩
theorem run_newRow (w : World) (e : TypeId) (cs : Array Value) : (newRow e cs).run P w = .ok ⟨w.heap.size, 0, none⟩ { w with heap := w.heap.push (.cells cs e) } := by
 simp only [newRow, newObj, Sem.run_bind, Sem.run, Result.andThen_ok, Sem.run_pure]
instance opaAlloc {t : TypeId} {z : Value} {zs : List Value} [hz : Zer P t z] [hc : CellsL z zs] : OpA P ρ L (.alloc t) ty (fun b => .pointer (some ⟨b, 0, none⟩)) (.cells zs.toArray t) :=
 ⟨fun c h => (by cases h), fun w o ho _ _ => ⟨{ w with heap := w.heap.push (.cells zs.toArray t) }, by
  unfold execOp; simp only [ho, Instr.alloc, Sem.run_bind, hz.out, Result.andThen_ok, newVar, hc.out, run_newRow, Sem.run_pure], rfl, rfl, rfl⟩⟩
instance opaBox {t : TypeId} {x : Operand} {v : Value} {vs : List Value} [hx : EvO ρ x v] [hc : CellsL v vs] : OpA P ρ L (.box t x) ty (fun b => .pointer (some ⟨b, 0, none⟩)) (.cells vs.toArray t) :=
 ⟨fun c h => (by cases h), fun w o ho _ _ => ⟨{ w with heap := w.heap.push (.cells vs.toArray t) }, by
  unfold execOp; simp only [ho, hx.out, Instr.box, Sem.run_bind, newVar, hc.out, run_newRow, Result.andThen_ok, Sem.run_pure], rfl, rfl, rfl⟩⟩
instance opaMakeMap {t : TypeId} : OpA P ρ L (.makeMap t none) ty (fun b => .map (some b)) (.map #[] 0) :=
 ⟨fun c h => (by cases h), fun w o ho _ _ => ⟨{ w with heap := w.heap.push (.map #[] 0) }, by
  unfold execOp; simp only [ho, Instr.makeMap, newObj, Sem.run_bind, Sem.run, Result.andThen_ok, Sem.run_pure, Option.map_none], rfl, rfl, rfl⟩⟩
class SeqP (ρ : Env) (i : Nat) (n : Nat) (ps : List (Nat × Operand)) (out : outParam (List Value)) : Prop where
 out : ∀ (cells : Array Value), cells.size = (i + ps.length) * n → Instr.fill (fun i => some (i * n, n)) cells (ps.map fun (i, x) => (i, ev ρ x)) = some (cells.toList.take (i * n) ++ out).toArray ∧ out.length = ps.length * n
instance seqNil {i n : Nat} : SeqP ρ i n [] [] := ⟨fun cells h => ⟨by simp only [List.map_nil, Instr.fill, List.append_nil]; rw [List.take_of_length_le (by simp [h])], by simp⟩⟩
instance seqCons {i n m : Nat} {x : Operand} {ps : List (Nat × Operand)} {v : Value} {vs out out' : List Value} [hx : EvO ρ x v] [hc : CellsL v vs] [hl : LenL vs n] [hs : SeqP ρ (i + 1) n ps out] [ho : Cat vs out out'] [hi : AddN 0 i m] :
  SeqP ρ i n ((m, x) :: ps) out' := ⟨fun cells h => by
 have hm : m = i := by have := hi.out; omega
 subst hm
 have h2 : v.cells.size = n := by rw [hc.out]; simp [hl.out]
 simp only [List.length_cons] at h
 have hle : m * n + n ≤ cells.size := by
  rw [h]; have : (m + 1) * n ≤ (m + (ps.length + 1)) * n := Nat.mul_le_mul_right n (by omega)
  rw [Nat.add_mul] at this; omega
 have h4 := foldl_put (m * n) vs 0 cells (by have := hl.out; omega)
 simp only [Nat.add_zero, hl.out] at h4
 have hsz : (cells.toList.take (m * n) ++ vs ++ cells.toList.drop (m * n + n)).length = cells.size := by
  simp only [List.length_append, List.length_take, List.length_drop, Array.length_toList, hl.out]; omega
 have h5 : (v.cells.zipIdx.foldl (fun cs (c, j) => cs.setIfInBounds (m * n + j) c) cells) = (cells.toList.take (m * n) ++ vs ++ cells.toList.drop (m * n + n)).toArray := by
  apply Array.ext'
  rw [hc.out, ← Array.foldl_toList]
  simpa using h4
 obtain ⟨h6, h7⟩ := hs.out (cells.toList.take (m * n) ++ vs ++ cells.toList.drop (m * n + n)).toArray (by simp only [List.size_toArray]; rw [hsz, h]; congr 1; omega)
 simp only [List.map_cons, Instr.fill, hx.out]
 rw [if_neg (by rw [h2]; simp; omega), h5, h6]
 have e1 : (m + 1) * n = m * n + n := by rw [Nat.add_mul]; omega
 have e2 : (cells.toList.take (m * n) ++ vs).length = m * n + n := by
  simp only [List.length_append, List.length_take, Array.length_toList, hl.out]; omega
 refine ⟨?_, ?_⟩
 ·rw [List.take_append_of_le_length (by rw [e1, e2]; exact Nat.le_refl _), List.take_of_length_le (by rw [e1, e2]; exact Nat.le_refl _), ← ho.out, List.append_assoc]
 ·rw [← ho.out, List.length_append, h7, hl.out, List.length_cons, Nat.add_mul]; omega⟩
class LeSmall (k : Nat) : Prop where le : k ≤ 1000
@[reducible] def subN : Nat → Nat → Nat
 | n, 0 => n
 | 0, _ + 1 => 0
 | n + 1, m + 1 => subN n m
theorem subN_eq : ∀ a b, subN a b = a - b
 | n, 0 => by cases n <;> rfl
 | 0, _ + 1 => by simp [subN]
 | n + 1, m + 1 => by simp [subN, subN_eq n m]
instance {k : Nat} [h : EqNat (subN k 1000) 0] : LeSmall k := ⟨by have := h.eq; rw [subN_eq] at this; omega⟩
instance opaBuildSlice {t e : TypeId} {len n k : Nat} {ps : List (Nat × Operand)} {out : List Value} {z : Value} {zs : List Value} [ht : Und P t (.slice e)] [hn : Siz P e n] [hz : Zer P e z] [hc : CellsL z zs] [hs : SeqP ρ 0 n ps out] [hl : LenL out k]
  [hlen : EqNat (len * n) k] [hpn : NeNat k 0] [hle : LeSmall k] :
  OpA P ρ L (.buildSlice t len ps.toArray) ty (fun b => .slice (some ⟨b, 0, none⟩) len len) (.cells out.toArray e) :=
 ⟨fun c h => (by cases h), fun w o ho _ _ => ⟨{ w with heap := w.heap.push (.cells out.toArray e) }, by
  have h1 : len * n = k := hlen.eq
  have h2 : ¬ (len * n > 2 ^ 24) := by have := hle.le; omega
  have h3 : ¬ (len * n = 0) := by have := hpn.ne; omega
  have h7 := (hs.out (Array.replicate ((0 + ps.length) * n) default) (by simp)).2
  have hk := hl.out
  have hps : ps.length = len := by
   have h0 : n ≠ 0 := by rintro rfl; simp at h3
   have : ps.length * n = len * n := by rw [← h7, hk, h1]
   exact Nat.eq_of_mul_eq_mul_right (by omega) this
  have h6 := fun (cells : Array Value) (hh : cells.size = len * n) => (hs.out cells (by rw [hh, hps]; simp)).1
  unfold execOp
  simp only [ho, Instr.buildSlice, Sem.run_bind, run_underlying ht.out, Result.andThen_ok, hn.out, h2, if_false, h3, hz.out, Sem.run_pure]
  have h8 : (ps.toArray.map fun (i, x) => (i, ev ρ x)).toList = ps.map fun (i, x) => (i, ev ρ x) := by simp
  rw [h8, h6 _ (by simp)]
  simp only [Nat.zero_mul, List.take_zero, List.nil_append, Sem.run_bind, run_newRow, Result.andThen_ok, Sem.run_pure], rfl, rfl, rfl⟩⟩
theorem run_store_cell {w0 w : World} {b k : Nat} {c : Array Value} {e : TypeId} {v : Value} {L' : Chunk} (hst : St w0 w L) (hb : InC L b (.cells c e (0, 0))) (hk : k < c.size) (hv : Sng v) (hu : UpdC L b (.cells (c.setIfInBounds k v) e (0, 0)) L') :
  ∃ w', (store ⟨b, k, none⟩ v).run P w = .ok () w' ∧ St w0 w' L' := by
 have hh := hst.pn _ _ hb.out
 have hc : w.cell? ⟨b, k, none⟩ = some c[k] := by unfold World.cell?; simp [hh, hk]
 have hf : w.frozen? ⟨b, k, none⟩ = false := by unfold World.frozen?; simp [hh]
 refine ⟨w.setCell ⟨b, k, none⟩ v, ?_, ?_⟩
 ·unfold store
  obtain ⟨_, h1, h2⟩ := hv.out
  cases v <;> first | exact absurd rfl (h1 _) | exact absurd rfl (h2 _) | (simp only [Sem.run, hc, hf]; rfl)
 ·refine hst.upd hu _ rfl rfl (fun _ => ?_) (fun j hj => ?_)
  ·show (w.heap.modify b _)[b]? = _
   rw [Array.getElem?_modify, if_pos rfl, hh]
   rfl
  ·show (w.heap.modify b _)[j]? = _
   rw [Array.getElem?_modify, if_neg (fun e => hj e.symm)]
instance opuStore {t : TypeId} {x y : Operand} {b k n : Nat} {l l' : List Value} {e : TypeId} {v : Value} {L' : Chunk}
  [hx : EvO ρ x (.pointer (some ⟨b, k, none⟩))] [hy : EvO ρ y v] [hv : Sng v] [hn : Siz P t n] [h1 : EqNat n 1] [hb : InC L b (.cells l.toArray e (0, 0))] [hk : SetL l k v l'] [hu : UpdC L b (.cells l'.toArray e (0, 0)) L'] : OpU P ρ L (.store t x y) ty L' :=
 ⟨fun c h => (by cases h), fun w0 w o ho _ hst => by
  have he : l.toArray.setIfInBounds k v = l'.toArray := by rw [← hk.out.2]; simp
  obtain ⟨w', hr, hs⟩ := run_store_cell (P := P) (k := k) hst hb (by simpa using hk.out.1) hv (he ▸ hu)
  refine ⟨w', ?_, hs⟩
  have hn1 : n = 1 := h1.eq
  unfold execOp
  have hadd : (⟨b, k, none⟩ : Addr).add 0 = ⟨b, k, none⟩ := by simp [Addr.add]
  simp only [ho, hx.out, hy.out, Instr.storeAt, Sem.run_bind, Instr.sureAddr, Sem.run_pure, Result.andThen_ok, storeVar, hn.out, hv.out.1]
  rw [if_neg (by simp [hn1])]
  simp only [storeCells, hadd, Sem.run_bind, hr, Result.andThen_ok, Sem.run_pure]⟩
class SngL (l : List Value) : Prop where out : ∀ v ∈ l, Sng v
instance : SngL [] := ⟨fun _ h => by cases h⟩
instance {v : Value} {l : List Value} [h : Sng v] [hs : SngL l] : SngL (v :: l) := ⟨fun u hu => by
 rcases List.mem_cons.1 hu with rfl | hu
 ·exact h
 ·exact hs.out u hu⟩
theorem run_storeCells_st {w0 : World} {b k : Nat} {e : TypeId} : ∀ (vs : List Value) (i : Nat) (w : World) (c : Array Value) (L L' : Chunk), (∀ v ∈ vs, Sng v) → St w0 w L → InC L b (.cells c e (0, 0)) → k + i + vs.length ≤ c.size →
  UpdC L b (.cells (c.toList.take (k + i) ++ vs ++ c.toList.drop (k + i + vs.length)).toArray e (0, 0)) L' → ∃ w', (storeCells ⟨b, k, none⟩ vs i).run P w = .ok () w' ∧ St w0 w' L'
 | [], i, w, c, L, L', _, hst, hb, _, hu => by
  have e1 : (c.toList.take (k + i) ++ [] ++ c.toList.drop (k + i + ([] : List Value).length)).toArray = c := by simp
  rw [e1] at hu
  refine ⟨w, by simp [storeCells, Sem.run_pure], ?_⟩
  have hh := hst.pn _ _ hb.out
  exact hst.upd hu w rfl rfl (fun _ => hh) (fun _ _ => rfl)
 | v :: vs, i, w, c, L, L', hv, hst, hb, hle, hu => by
  simp only [List.length_cons] at hle
  have hlt : k + i < c.size := by omega
  obtain ⟨A, B, o, rfl, rfl⟩ := hu.out
  have hu1 : UpdC (A ++ (b, o) :: B) b (.cells (c.setIfInBounds (k + i) v) e (0, 0)) (A ++ (b, .cells (c.setIfInBounds (k + i) v) e (0, 0)) :: B) := ⟨A, B, o, rfl, rfl⟩
  obtain ⟨w1, hr1, hs1⟩ := run_store_cell (P := P) (k := k + i) hst hb hlt (hv v (List.mem_cons_self ..)) hu1
  have hlen : k + (i + 1) + vs.length ≤ (c.setIfInBounds (k + i) v).size := by simp; omega
  have e1 : ((c.setIfInBounds (k + i) v).toList.take (k + (i + 1)) ++ vs ++ (c.setIfInBounds (k + i) v).toList.drop (k + (i + 1) + vs.length)) = c.toList.take (k + i) ++ (v :: vs) ++ c.toList.drop (k + i + (v :: vs).length) := by
   have hlt' : k + i < c.toList.length := by simpa using hlt
   have ee : k + (i + 1) = k + i + 1 := by omega
   have e2 : k + i + 1 + vs.length = k + i + (v :: vs).length := by simp; omega
   rw [ee, e2, Array.toList_setIfInBounds, List.take_succ_eq_append_getElem (by simpa using hlt'), List.drop_set_of_lt (by simp)]
   simp [List.take_set_of_le]
  have hu2 : UpdC (A ++ (b, .cells (c.setIfInBounds (k + i) v) e (0, 0)) :: B) b (.cells ((c.setIfInBounds (k + i) v).toList.take (k + (i + 1)) ++ vs ++ (c.setIfInBounds (k + i) v).toList.drop (k + (i + 1) + vs.length)).toArray e (0, 0))
    (A ++ (b, .cells (c.toList.take (k + i) ++ (v :: vs) ++ c.toList.drop (k + i + (v :: vs).length)).toArray e (0, 0)) :: B) := ⟨A, B, _, rfl, by rw [e1]⟩
  obtain ⟨w2, hr2, hs2⟩ := run_storeCells_st vs (i + 1) w1 _ _ _ (fun u hu => hv u (List.mem_cons_of_mem _ hu)) hs1 ⟨by simp⟩ hlen hu2
  have hadd : (⟨b, k, none⟩ : Addr).add i = ⟨b, k + i, none⟩ := by unfold Addr.add; split <;> simp_all
  exact ⟨w2, by simp only [storeCells, hadd, Sem.run_bind, hr1, Result.andThen_ok, hr2], hs2⟩
instance (priority := low) opuStoreAgg {t : TypeId} {x y : Operand} {b k n : Nat} {l l' vs : List Value} {e : TypeId} {L' : Chunk}
  [hx : EvO ρ x (.pointer (some ⟨b, k, none⟩))] [hy : EvO ρ y (.agg vs.toArray)] [hv : SngL vs] [hn : Siz P t n] [hl : LenL vs n] [hb : InC L b (.cells l.toArray e (0, 0))] [hk : PutL l k vs l'] [hu : UpdC L b (.cells l'.toArray e (0, 0)) L'] : OpU P ρ L (.store t x y) ty L' :=
 ⟨fun c h => (by cases h), fun w0 w o ho _ hst => by
  have h1 := hk.out.1
  have h2 := hk.out.2
  obtain ⟨w', hr, hs⟩ := run_storeCells_st (P := P) (k := k) vs 0 w l.toArray L L' hv.out hst hb (by simpa using h1) (by simpa [h2] using hu)
  refine ⟨w', ?_, hs⟩
  unfold execOp
  simp only [ho, hx.out, hy.out, Instr.storeAt, Sem.run_bind, Instr.sureAddr, Sem.run_pure, Result.andThen_ok, storeVar, hn.out, Value.cells]
  rw [if_neg (by simp [hl.out])]
  simp only [hr, Result.andThen_ok]⟩
end
end Go.Pw

namespace Go.Pw
def Rd (L : Chunk) (s : Nat) (v : Value) (n : Nat) (xs : List Value) : Prop :=
 xs.length = n * s ∧ (((∃ a cap, v = .slice a 0 cap) ∧ n = 0) ∨ ∃ b k cap c e fr, v = .slice (some ⟨b, k, none⟩) n cap ∧ (b, .cells c e fr) ∈ L ∧ k + n * s ≤ c.size ∧ (c.toList.drop k).take (n * s) = xs ∧ n ≤ cap)
theorem Rd.mono {L L' : Chunk} {s n : Nat} {v : Value} {xs : List Value} (h : Rd L s v n xs) (hs : ∀ p ∈ L, p ∈ L') : Rd L' s v n xs :=
 ⟨h.1, h.2.imp id fun ⟨b, k, cap, c, e, fr, h1, h2, h3⟩ => ⟨b, k, cap, c, e, fr, h1, hs _ h2, h3⟩⟩
def Row (e : TypeId) (s : Nat) (N : Chunk) (v : Value) (n : Nat) (xs : List Value) : Prop :=
 xs.length = n * s ∧ ((v = .slice none 0 0 ∧ n = 0 ∧ N = []) ∨
  ∃ b cap rest, v = .slice (some ⟨b, 0, none⟩) n cap ∧ N = [(b, .cells (xs ++ rest).toArray e (0, 0))] ∧ n ≤ cap ∧ (xs ++ rest).length = cap * s)
theorem Row.rd {e : TypeId} {s n : Nat} {N : Chunk} {v : Value} {xs : List Value} (h : Row e s N v n xs) : Rd N s v n xs := by
 refine ⟨h.1, ?_⟩
 rcases h.2 with ⟨h1, h2, h3⟩ | ⟨b, cap, rest, h1, h2, h3, h4⟩
 ·exact .inl ⟨⟨_, _, h1⟩, h2⟩
 ·refine .inr ⟨b, 0, cap, _, e, (0, 0), h1, by rw [h2]; exact List.mem_cons_self .., ?_, ?_, h3⟩
  ·have := h.1; simp; omega
  ·simp [← h.1]
theorem Row.nil (e : TypeId) (s : Nat) : Row e s [] (.slice none 0 0) 0 [] := ⟨by simp, .inl ⟨rfl, rfl, rfl⟩⟩
class At (L M : Chunk) (C : outParam (Chunk → Chunk)) : Prop where out : ∃ A B, L = A ++ M ++ B ∧ ∀ X, C X = A ++ X ++ B
instance (priority := high) atHere {M : Chunk} : At M M (fun X => X) := ⟨[], [], by simp, by simp⟩
instance atBlk {L : Chunk} {b : Nat} {o : Obj} : At ((b, o) :: L) [(b, o)] (fun X => X ++ L) := ⟨[], L, by simp, by simp⟩
instance atCons {L M : Chunk} {p : Nat × Obj} {C : Chunk → Chunk} [h : At L M C] : At (p :: L) M (fun X => p :: C X) := ⟨by
 obtain ⟨A, B, h1, h2⟩ := h.out; exact ⟨p :: A, B, by simp [h1], fun X => by simp [h2]⟩⟩
instance atLeft {A B M : Chunk} {C : Chunk → Chunk} [h : At A M C] : At (A ++ B) M (fun X => C X ++ B) := ⟨by
 obtain ⟨X, Y, h1, h2⟩ := h.out; exact ⟨X, Y ++ B, by simp [h1], fun Z => by simp [h2]⟩⟩
instance atRight {A B M : Chunk} {C : Chunk → Chunk} [h : At B M C] : At (A ++ B) M (fun X => A ++ C X) := ⟨by
 obtain ⟨X, Y, h1, h2⟩ := h.out; exact ⟨A ++ X, Y, by simp [h1], fun Z => by simp [h2]⟩⟩
theorem At.nil (L : Chunk) : At L [] (fun X => X ++ L) := ⟨[], L, by simp, by simp⟩
section
variable {P : Program} {ρ : Env} {L : Chunk} {ty : TypeId}
theorem run_loadCells_rd {w : World} {b k n : Nat} {c : Array Value} {e : TypeId} {fr : Nat × Nat} (h : w.heap[b]? = some (.cells c e fr)) (hle : k + n ≤ c.size) :
  (loadCells ⟨b, k, none⟩ n).run P w = .ok ((c.toList.drop k).take n).toArray w := by
 have := run_loadCellsFrom (P := P) h k n 0 #[] (by omega)
 unfold loadCells
 rw [this]
 congr 1
 apply Array.ext'
 simp [List.extract_eq_take_drop]
theorem run_loadCells0 {w : World} (a : Addr) : (loadCells a 0).run P w = .ok #[] w := by
 simp [loadCells, loadCellsFrom, Sem.run_pure]
theorem run_firstCells_rd {w : World} {s n : Nat} {u : Value} {xs : List Value} (h : Rd L s u n xs) (hp : Pn w L) : (Builtin.firstCells s n u).run P w = .ok xs.toArray w := by
 rcases h.2 with ⟨⟨a, cap, rfl⟩, rfl⟩ | ⟨b, k, cap, c, e, fr, rfl, h1, h2, h3, _⟩
 ·have : xs = [] := List.eq_nil_of_length_eq_zero (by simpa using h.1)
  subst this
  cases a with
  | none => simp only [Builtin.firstCells, Sem.run_pure]
  | some a => simp only [Builtin.firstCells, Nat.zero_mul, run_loadCells0]
 ·simp only [Builtin.firstCells]
  rw [run_loadCells_rd (hp _ _ h1) h2, h3]
theorem lenOf_rd {w : World} {s n : Nat} {u : Value} {xs : List Value} (h : Rd L s u n xs) : (Builtin.lenOf u).run P w = .ok n w := by
 rcases h.2 with ⟨⟨a, cap, rfl⟩, rfl⟩ | ⟨b, k, cap, c, e, fr, rfl, _⟩ <;> rfl
theorem St.swap {w0 w w' : World} {A B M M' : Chunk} (h : St w0 w (A ++ M ++ B)) (h1 : w'.os = w.os) (h2 : w'.output = w.output) (hnd : (M'.map Prod.fst).Nodup) (hm : Pn w' M')
  (hnew : ∀ k ∈ M'.map Prod.fst, k ∈ M.map Prod.fst ∨ w.heap.size ≤ k) (hold : ∀ k, k < w.heap.size → k ∉ M.map Prod.fst → w'.heap[k]? = w.heap[k]?) : St w0 w' (A ++ M' ++ B) := by
 have hn := h.nodup
 simp only [List.map_append] at hn
 rw [List.nodup_append, List.nodup_append] at hn
 obtain ⟨⟨a1, a2, a3⟩, a4, a5⟩ := hn
 have hlt : ∀ p ∈ A ++ M ++ B, p.1 < w.heap.size := fun p hp => (Array.getElem?_eq_some_iff.1 (h.pn p.1 p.2 hp)).1
 have hAM : ∀ x ∈ A.map Prod.fst, x ∉ M.map Prod.fst := fun x hx hx' => a3 x hx x hx' rfl
 have hBM : ∀ x ∈ B.map Prod.fst, x ∉ M.map Prod.fst := fun x hx hx' => a5 x (List.mem_append_right _ hx') x hx rfl
 have hAlt : ∀ x ∈ A.map Prod.fst, x < w.heap.size := fun x hx => by
  obtain ⟨p, hp, rfl⟩ := List.mem_map.1 hx
  exact hlt p (List.mem_append_left _ (List.mem_append_left _ hp))
 have hBlt : ∀ x ∈ B.map Prod.fst, x < w.heap.size := fun x hx => by
  obtain ⟨p, hp, rfl⟩ := List.mem_map.1 hx
  exact hlt p (List.mem_append_right _ hp)
 refine ⟨h1.trans h.os, h2.trans h.out, ?_, fun k o hk => ?_⟩
 ·simp only [List.map_append]
  rw [List.nodup_append, List.nodup_append]
  refine ⟨⟨a1, hnd, fun x hx y hy e => ?_⟩, a4, fun x hx y hy e => ?_⟩
  ·subst e
   rcases hnew x hy with hy | hy
   ·exact hAM x hx hy
   ·exact absurd (hAlt x hx) (by omega)
  ·subst e
   rcases List.mem_append.1 hx with hx | hx
   ·exact a5 x (List.mem_append_left _ hx) x hy rfl
   ·rcases hnew x hx with hx | hx
    ·exact hBM x hy hx
    ·exact absurd (hBlt x hy) (by omega)
 ·rcases List.mem_append.1 hk with hk | hk
  ·rcases List.mem_append.1 hk with hk | hk
   ·have hm' : k ∈ A.map Prod.fst := List.mem_map.2 ⟨_, hk, rfl⟩
    rw [hold k (hAlt k hm') (hAM k hm')]
    exact h.pn k o (List.mem_append_left _ (List.mem_append_left _ hk))
   ·exact hm k o hk
  ·have hm' : k ∈ B.map Prod.fst := List.mem_map.2 ⟨_, hk, rfl⟩
   rw [hold k (hBlt k hm') (hBM k hm')]
   exact h.pn k o (List.mem_append_right _ hk)
theorem length_zeroCells (z : List Value) (n : Nat) : (Builtin.zeroCells z.toArray n).size = n * z.length := by simp [Builtin.zeroCells]
theorem ef_append {t t2 e : TypeId} {s bytes n m : Nat} {x y : Operand} {v u : Value} {xs news : List Value} {N : Chunk} {C : Chunk → Chunk} {z : Value} {zs : List Value}
  (ht : Und P t (.slice e)) (ht2 : Und P t2 (.slice e)) (hz : Siz P e s) (hzv : Zer P e z) (hzc : CellsL z zs) (hzl : zs.length = s) (hby : Byt P e bytes) (hbp : 0 < bytes)
  (hx : EvO ρ x v) (hy : EvO ρ y u) (hrow : Row e s N v n xs) (hat : At L N C) (hrd : Rd L s u m news) (hsng : ∀ v ∈ news, Sng v) (hfit : (n + m) * bytes ≤ 140737488355328) :
  Ef P ρ L (.call { callee := .builtin .append, args := #[x, y], argTypes := #[t, t2] }) ty (fun v' L' => ∃ N', L' = C N' ∧ Row e s N' v' (n + m) (xs ++ news)) noPanic := by
 refine ⟨fun c h => (by cases h), fun w0 w rd a next Q o ho hty ha hst hn _ => ?_⟩
 have hnm : n + m ≤ 140737488355328 := Nat.le_trans (Nat.le_mul_of_pos_right _ hbp) hfit
 have hlen : (xs ++ news).length = (n + m) * s := by rw [List.length_append, hrow.1, hrd.1, Nat.add_mul]
 obtain ⟨i, hi, hib⟩ := hby.out
 have hti : ∀ w, (typeInfo e).run P w = .ok i w := fun w => by simp [typeInfo, hi]
 obtain ⟨A, B, hL, hC⟩ := hat.out
 have hunfold : ∀ r, (Builtin.append_ #[t, t2] o.type #[v, u]).run P w = r → (execOp (ev ρ) o).run P w = r.andThen fun v w' => .ok (.value v) w' := fun r hr => by
  unfold execOp
  simp only [ho, resolve, invoke, builtin, Sem.run_bind, Sem.run_pure, Result.andThen_ok, List.map_toArray, List.map_cons, List.map_nil, hx.out, hy.out, hr]
 have hlenu := lenOf_rd (P := P) (w := w) hrd
 have hpd : Pn w.drew L := hst.pn
 have hcells := run_firstCells_rd (P := P) hrd hst.pn
 have hcellsD := run_firstCells_rd (P := P) hrd hpd
 have hNL : ∀ p ∈ N, p ∈ L := fun p hp => by rw [hL]; exact List.mem_append_left _ (List.mem_append_right _ hp)
 have holdD := run_firstCells_rd (P := P) (hrow.rd.mono hNL) hpd
 have grown : ∀ (cap : Nat) (base : Option Addr), v = .slice base n cap → cap < n + m →
   ∃ v' w' N', (Builtin.append_ #[t, t2] o.type #[v, u]).run P w = .ok v' w' ∧ St w0 w' (C N') ∧ Row e s N' v' (n + m) (xs ++ news) := fun cap base hv hcap => by
  subst hv
  have hn1 : ¬ (n + m ≤ cap) := by omega
  have hn2 : ¬ ((9223372036854775807 : Int) < (n : Int) + (m : Int) ∧ i.bytes = 0) := by omega
  have hn3 : ¬ (281474976710656 < Builtin.nextslicecap (n + m) cap * i.bytes) := by
   have := growslice_fits hcap (by rw [hib]; exact hfit : (n + m) * i.bytes ≤ 140737488355328); omega
  have hK : n + m ≤ grownCap w (n + m) cap e := grownCap_ge w _ _ _
  have hrun : (Builtin.append_ #[t, t2] o.type #[.slice base n cap, u]).run P w = .ok (.slice (some ⟨w.heap.size, 0, none⟩) (n + m) (grownCap w (n + m) cap e))
    (w.drew.alloc (.cells (xs.toArray ++ (news.toArray ++ Builtin.zeroCells z.cells (grownCap w (n + m) cap e - (n + m)))) e)) := by
   unfold Builtin.append_
   simp [run_underlying ht.out, run_underlying ht2.out, hz.out, hlenu, hn1, hti, hn2, hn3, choose, Sem.run, Question.forced, askRoom, newRow, newObj]
   simp [holdD, hcellsD, hzv.out, grownCap]
  refine ⟨_, _, [(w.heap.size, _)], hrun, ?_, hlen, .inr ⟨w.heap.size, grownCap w (n + m) cap e, (Builtin.zeroCells z.cells (grownCap w (n + m) cap e - (n + m))).toList, rfl, rfl, hK, ?_⟩⟩
  ·rw [hC]
   rw [hL] at hst
   refine St.swap (w := w) hst rfl rfl (by simp) (fun k x hk => ?_) (fun k hk => .inr (by simp at hk; omega)) (fun k hk _ => ?_)
   ·simp at hk
    obtain ⟨rfl, rfl⟩ := hk
    show (w.heap.push _)[w.heap.size]? = _
    simp
   ·show (w.heap.push _)[k]? = _
    rw [Array.getElem?_push, if_neg (by omega)]
  ·rw [List.length_append, hlen, hzc.out, Array.length_toList, length_zeroCells, hzl, ← Nat.add_mul]
   congr 1
   omega
 have fin : ∀ v' w' N', (Builtin.append_ #[t, t2] o.type #[v, u]).run P w = .ok v' w' → St w0 w' (C N') → Row e s N' v' (n + m) (xs ++ news) → Oper.uponIn (fence rd) 0 P o a next Q ((execOp (ev ρ) o).run P w) := fun v' w' N' h1 h2 h3 => by
  rw [hunfold _ h1]
  exact hn v' w' (C N') h2 ⟨N', rfl, h3⟩
 rcases hrow.2 with ⟨rfl, rfl, rfl⟩ | ⟨b, cap, rest, rfl, hN, hnc, hcl⟩
 ·by_cases hm : m = 0
  ·subst hm
   have hnews : news = [] := List.eq_nil_of_length_eq_zero (by simpa using hrd.1)
   have hxs : xs = [] := List.eq_nil_of_length_eq_zero (by simpa using hrow.1)
   subst hnews hxs
   refine fin (.slice none 0 0) w [] ?_ ?_ (Row.nil e s)
   ·unfold Builtin.append_
    simp [run_underlying ht.out, run_underlying ht2.out, hz.out, hlenu, hcells]
   ·rw [hC]; rw [hL] at hst; exact hst
  ·obtain ⟨v', w', N', h1, h2, h3⟩ := grown 0 none rfl (by omega)
   exact fin v' w' N' h1 h2 h3
 ·by_cases hroom : n + m ≤ cap
  ·have hb : InC L b (.cells (xs ++ rest).toArray e (0, 0)) := ⟨hNL _ (by rw [hN]; exact List.mem_cons_self ..)⟩
   have hle : n * s + 0 + news.length ≤ (xs ++ rest).toArray.size := by
    rw [List.size_toArray, hcl, hrd.1, Nat.add_zero, ← Nat.add_mul]; exact Nat.mul_le_mul_right _ hroom
   have e1 : (xs ++ rest).toArray.toList.take (n * s + 0) ++ news ++ (xs ++ rest).toArray.toList.drop (n * s + 0 + news.length) = (xs ++ news) ++ rest.drop news.length := by
    simp only [Nat.add_zero, ← hrow.1]
    simp
   have hu : UpdC L b (.cells ((xs ++ rest).toArray.toList.take (n * s + 0) ++ news ++ (xs ++ rest).toArray.toList.drop (n * s + 0 + news.length)).toArray e (0, 0)) (C [(b, .cells ((xs ++ news) ++ rest.drop news.length).toArray e (0, 0))]) :=
    ⟨A, B, .cells (xs ++ rest).toArray e (0, 0), by rw [hL, hN]; simp, by rw [hC, e1]; simp⟩
   obtain ⟨w', hr, hs⟩ := run_storeCells_st (P := P) (k := n * s) news 0 w _ L _ hsng hst hb hle hu
   refine fin (.slice (some ⟨b, 0, none⟩) (n + m) cap) w' _ ?_ hs ⟨hlen, .inr ⟨b, cap, rest.drop news.length, rfl, rfl, hroom, ?_⟩⟩
   ·have hadd : (⟨b, 0, none⟩ : Addr).add (n * s) = ⟨b, n * s, none⟩ := by unfold Addr.add; split <;> simp_all
    unfold Builtin.append_
    simp [run_underlying ht.out, run_underlying ht2.out, hz.out, hlenu, hroom, hcells, hadd, hr]
   ·have h9 := hle
    simp only [List.size_toArray, Nat.add_zero] at h9
    simp only [List.length_append, List.length_drop] at hcl h9 ⊢
    have := hrow.1
    omega
  ·obtain ⟨v', w', N', h1, h2, h3⟩ := grown cap (some ⟨b, 0, none⟩) rfl (by omega)
   exact fin v' w' N' h1 h2 h3
variable {w0 : World} {rd : Option Nat} {nt : Nat} {K : Post} {ds : List Deferred} {R : Chunk} {ops : Array Oper} {l : List Oper} {d : Nat} {pos : String} {after : Array Edge}
theorem OW.append {t t2 e : TypeId} {s bytes n m : Nat} {x y : Operand} {v u : Value} {xs news : List Value} {N : Chunk} {C : Chunk → Chunk} {z : Value} {zs : List Value}
  [hx : EvO ρ x v] [hy : EvO ρ y u] [ht : Und P t (.slice e)] [ht2 : Und P t2 (.slice e)] [hz : Siz P e s] [hzv : Zer P e z] [hzc : CellsL z zs] [hzl : LenL zs s] [hby : Byt P e bytes] [hbp : NeNat bytes 0]
  (hrow : Row e s N v n xs) (hat : At L N C) (hrd : Rd L s u m news) (hsng : ∀ v ∈ news, Sng v) (hfit : (n + m) * bytes ≤ 140737488355328)
  (next : ∀ v' N', Row e s N' v' (n + m) (xs ++ news) → OW P w0 rd nt ops K l (upd ρ d v') ds (C N')) :
  OW P w0 rd nt ops K (⟨some d, .call { callee := .builtin .append, args := #[x, y], argTypes := #[t, t2] }, ty, pos, after, none⟩ :: l) ρ ds L :=
 OW.eff (ef_append ht ht2 hz hzv hzc hzl.out hby (Nat.pos_of_ne_zero hbp.ne) hx hy hrow hat hrd hsng hfit) (fun v' L' ⟨N', h1, h2⟩ => by subst h1; exact next v' N' h2) (fun _ _ h => h.elim)
theorem RW.append {t t2 e : TypeId} {s bytes n m : Nat} {x y : Operand} {v u : Value} {xs news : List Value} {N : Chunk} {C : Chunk → Chunk} {z : Value} {zs : List Value} {g : Option (Nat × Bool)}
  [hg : GdT ops ρ g] [hx : EvO ρ x v] [hy : EvO ρ y u] [ht : Und P t (.slice e)] [ht2 : Und P t2 (.slice e)] [hz : Siz P e s] [hzv : Zer P e z] [hzc : CellsL z zs] [hzl : LenL zs s] [hby : Byt P e bytes] [hbp : NeNat bytes 0]
  (hrow : Row e s N v n xs) (hat : At L N C) (hrd : Rd L s u m news) (hsng : ∀ v ∈ news, Sng v) (hfit : (n + m) * bytes ≤ 140737488355328)
  (next : ∀ v' N', Row e s N' v' (n + m) (xs ++ news) → ∃ R', (∀ p ∈ R, p ∈ R') ∧ (∀ p ∈ R', p ∈ C N') ∧ RW P w0 rd nt ops K l R' (upd ρ d v') ds (C N')) :
  RW P w0 rd nt ops K (⟨some d, .call { callee := .builtin .append, args := #[x, y], argTypes := #[t, t2] }, ty, pos, after, g⟩ :: l) R ρ ds L :=
 RW.eff hg.out rfl (ef_append ht ht2 hz hzv hzc hzl.out hby (Nat.pos_of_ne_zero hbp.ne) hx hy hrow hat hrd hsng hfit) (fun v' L' ⟨N', h1, h2⟩ => by subst h1; exact next v' N' h2) (fun _ _ h => h.elim)
theorem Rd.blk {b n cap : Nat} {l : List Value} {e : TypeId} {fr : Nat × Nat} {s : Nat} [h : InC L b (.cells l.toArray e fr)] (hl : l.length = n * s) (hc : n ≤ cap) : Rd L s (.slice (some ⟨b, 0, none⟩) n cap) n l :=
 ⟨hl, .inr ⟨b, 0, cap, _, e, fr, rfl, h.out, by simp; omega, by simp [← hl], hc⟩⟩
end
end Go.Pw

namespace Go.Pw

/-- The contract of a function value: a function, or a round of a range over a function. -/
def VP (P : Program) (fv : Value) (args : List Value) (L : Chunk) (Φ : Value → Chunk → Prop) (Ψ : List PanicEntry → Chunk → Prop) : Prop :=
  ∀ w0 w, St w0 w L →
    (∃ f first cap, fv = .func (.func f) first cap ∧ Entr P f ∧ CallsIn Fence.wide 0 P f (first.toList ++ args ++ cap.toList).toArray w (endR w0 Φ Ψ)) ∨
    (∃ l fn tmps assign body, fv = .func (.yield l) #[] #[] ∧ (Instr.yield l args.toArray).run P w = .ok (.round l fn tmps assign body) w ∧ RoundIn Fence.wide 0 P l fn tmps assign body w (endR w0 Φ Ψ))

theorem endR_mono {w0 : World} {Φ Φ' : Value → Chunk → Prop} {Ψ Ψ' : List PanicEntry → Chunk → Prop} (h1 : ∀ v L, Φ v L → Φ' v L) (h2 : ∀ c L, Ψ c L → Ψ' c L) :
    ∀ e w', endR w0 Φ Ψ e w' → endR w0 Φ' Ψ' e w' := fun e w' he => by
  cases e with
  | returned v => exact let ⟨L', a, b⟩ := he; ⟨L', a, h1 _ _ b⟩
  | panicked c => exact let ⟨L', a, b⟩ := he; ⟨L', a, h2 _ _ b⟩
  | outgrown => exact he

theorem VP.mono {P : Program} {fv : Value} {args : List Value} {L : Chunk} {Φ Φ' : Value → Chunk → Prop} {Ψ Ψ' : List PanicEntry → Chunk → Prop}
    (h : VP P fv args L Φ Ψ) (h1 : ∀ v L, Φ v L → Φ' v L) (h2 : ∀ c L, Ψ c L → Ψ' c L) : VP P fv args L Φ' Ψ' := fun w0 w hs => by
  rcases h w0 w hs with ⟨f, first, cap, a, b, c⟩ | ⟨l, fn, tmps, ags, bo, a, b, c⟩
  · exact .inl ⟨f, first, cap, a, b, c.mono (endR_mono h1 h2)⟩
  · exact .inr ⟨l, fn, tmps, ags, bo, a, b, RoundIn.mono c (endR_mono h1 h2)⟩

theorem FnP.vp {P : Program} {f : FuncId} {first cap : Array Value} {args ags a1 : List Value} {L : Chunk} {Φ : Value → Chunk → Prop} {Ψ : List PanicEntry → Chunk → Prop} [he : Entr P f]
    [h1 : Cat first.toList args a1] [h2 : Cat a1 cap.toList ags] (h : FnP P f ags L Φ Ψ) : VP P (.func (.func f) first cap) args L Φ Ψ := fun w0 w hs =>
  .inl ⟨f, first, cap, rfl, he, by rw [h1.out, h2.out]; exact h w0 w hs⟩

section
variable {P : Program} {w0 : World} {rd : Option Nat} {n : Nat} {K : Post} {ρ : Env} {ds : List Deferred} {L R : Chunk} {ops : Array Oper} {l : List Oper}
variable {dst : Option Tmp} {d : Nat} {op : Op} {ty : TypeId} {pos : String} {after : Array Edge} {v : Value}

theorem Ef.callV {x : Operand} {args : List Operand} {argTypes : Array TypeId} {fv : Value} {vs : List Value} {Φ : Value → Chunk → Prop} {Ψ : List PanicEntry → Chunk → Prop}
    (hx : ev ρ x = fv) (hvs : args.map (ev ρ) = vs) (h : VP P fv vs L Φ Ψ) : Ef P ρ L (.call { callee := .value x, args := args.toArray, argTypes }) ty Φ Ψ := by
  refine ⟨fun c h => (by cases h), fun w0 w rd a next Q o ho hty ha hst hn hp => ?_⟩
  have hargs : args.toArray.map (ev ρ) = vs.toArray := by rw [← hvs]; simp
  rcases h w0 w hst with ⟨f, first, cap, rfl, he, hc⟩ | ⟨l, fn, tmps, ags, bo, rfl, hy, hc⟩
  · have hr : (execOp (ev ρ) o).run P w = .ok (.enter f (first ++ vs.toArray ++ cap)) w := by
      unfold execOp
      simp only [ho, resolve, hx, Deferred.ofValue, Sem.run_bind, Sem.run_pure, Result.andThen_ok, invoke, he.run, hargs]
    rw [hr]
    refine ⟨isSome_depth rd, ?_⟩
    have e1 : (first.toList ++ vs ++ cap.toList).toArray = first ++ vs.toArray ++ cap := by simp
    rw [e1] at hc
    have h' : CallsIn (fence rd) (0 - 1) P f (first ++ vs.toArray ++ cap) w (endR w0 Φ Ψ) := hc
    refine h'.mono fun e w' he => ?_
    cases e with
    | returned v => obtain ⟨L', a, b⟩ := he; exact hn v w' L' a b
    | panicked c => obtain ⟨L', a, b⟩ := he; exact hp c w' L' a b
    | outgrown => exact he.elim
  · have hr : (execOp (ev ρ) o).run P w = .ok (.round l fn tmps ags bo) w := by
      unfold execOp
      simp only [ho, resolve, hx, Deferred.ofValue, Sem.run_bind, Sem.run_pure, Result.andThen_ok, invoke, hargs, Array.empty_append, hy]
    rw [hr]
    refine ⟨isSome_depth rd, ?_⟩
    have h' : RoundIn (fence rd) (0 - 1) P l fn tmps ags bo w (endR w0 Φ Ψ) := hc
    refine RoundIn.mono h' fun e w' he => ?_
    cases e with
    | returned v => obtain ⟨L', a, b⟩ := he; exact hn v w' L' a b
    | panicked c => obtain ⟨L', a, b⟩ := he; exact hp c w' L' a b
    | outgrown => exact he.elim

theorem OW.callV {x : Operand} {args : List Operand} {at_ : Array TypeId} {fv : Value} {vs : List Value} {Φ : Value → Chunk → Prop} [hx : EvO ρ x fv] [hv : EvL ρ args vs] (h : VP P fv vs L Φ noPanic)
    (next : ∀ v L', Φ v L' → OW P w0 rd n ops K l (updO ρ dst v) ds L') : OW P w0 rd n ops K (⟨dst, .call { callee := .value x, args := args.toArray, argTypes := at_ }, ty, pos, after, none⟩ :: l) ρ ds L :=
  OW.eff (Ef.callV hx.out hv.out h) next (fun _ _ h => h.elim)
theorem OW.callV1 {x : Operand} {args : List Operand} {at_ : Array TypeId} {fv : Value} {vs : List Value} {Φ : Value → Chunk → Prop} [hx : EvO ρ x fv] [hv : EvL ρ args vs] (h : VP P fv vs L Φ noPanic)
    (next : ∀ v L', Φ v L' → OW P w0 rd n ops K l (upd ρ d v) ds L') : OW P w0 rd n ops K (⟨some d, .call { callee := .value x, args := args.toArray, argTypes := at_ }, ty, pos, after, none⟩ :: l) ρ ds L :=
  OW.eff (Ef.callV hx.out hv.out h) next (fun _ _ h => h.elim)
/-! ### a range over a function -/
/-- A loop's record, by its state and its pending jump. -/
def IsRec (n : Nat) (ρ : Env) (ps : Array Tmp) (assign body : Code) (D : Nat) (rec : LoopState → Option Code → Obj) : Prop :=
  ∃ fn tmps, (∀ st pe, rec st pe = .loop { state := st, pending := pe, fn, tmps, params := ps, assign, body, defers := D }) ∧ tmps.size = n ∧ ∀ t, tmps.getD t undef = ρ t

def updL : List Tmp → List Value → Env → Env
  | p :: ps, a :: ags, ρ => updL ps ags (upd ρ p a)
  | _, _, ρ => ρ

theorem rep_updL {n : Nat} : ∀ (ps : List Tmp) (args : List Value) (tmps : Array Value) (ρ : Env), ps.all (· < n) = true → tmps.size = n → (∀ t, tmps.getD t undef = ρ t) →
    ((ps.zip args).foldl (fun tmps (t, a) => tmps.setIfInBounds t a) tmps).size = n ∧ ∀ t, ((ps.zip args).foldl (fun tmps (t, a) => tmps.setIfInBounds t a) tmps).getD t undef = updL ps args ρ t
  | [], _, tmps, ρ, _, h1, h2 => ⟨h1, by simpa [updL] using h2⟩
  | _ :: _, [], tmps, ρ, _, h1, h2 => ⟨h1, by simpa [updL] using h2⟩
  | p :: ps, a :: ags, tmps, ρ, hp, h1, h2 => by
    simp only [List.all_cons, Bool.and_eq_true] at hp
    have hr : Rep n { tmps := tmps, defers := [] } ρ [] := ⟨h1, h2, rfl⟩
    have hr' := hr.put (d := some p) (by simpa using hp.1) a
    simp only [List.zip_cons_cons, List.foldl_cons, updL]
    exact rep_updL ps ags _ _ hp.2 hr'.size hr'.get

def mk (D : Nat) : Deferred := { target := .collected D, args := #[] }

/-- How a round ends. -/
def roundK (l : Nat) (rec : LoopState → Option Code → Obj) (Φ : Value → Chunk → Prop) : Post
  | .normal, _, _, L => ∃ L', InC L l (rec .busy none) ∧ UpdC L l (rec .ready none) L' ∧ Φ (.bool true) L'
  | .ret, _, _, L => ∃ L', InC L l (rec .busy none) ∧ UpdC L l (rec .done (some .ret)) L' ∧ Φ (.bool false) L'
  | .exit id, _, _, L => ∃ L', InC L l (rec .busy none) ∧ UpdC L l (rec .done (some (.exit id))) L' ∧ Φ (.bool false) L'
  | .goto t, _, _, L => ∃ L', InC L l (rec .busy none) ∧ UpdC L l (rec .done (some (.goto t))) L' ∧ Φ (.bool false) L'
  | _, _, _, _ => False
theorem roundK.nrm {lp : Nat} {rec : LoopState → Option Code → Obj} {Φ : Value → Chunk → Prop} {L' : Chunk} [h1 : InC L lp (rec .busy none)] [h2 : UpdC L lp (rec .ready none) L'] (h : Φ (.bool true) L') : roundK lp rec Φ .normal ρ ds L := ⟨L', h1, h2, h⟩
theorem roundK.ret {lp : Nat} {rec : LoopState → Option Code → Obj} {Φ : Value → Chunk → Prop} {L' : Chunk} [h1 : InC L lp (rec .busy none)] [h2 : UpdC L lp (rec .done (some .ret)) L'] (h : Φ (.bool false) L') : roundK lp rec Φ .ret ρ ds L := ⟨L', h1, h2, h⟩
theorem roundK.exit {lp id : Nat} {rec : LoopState → Option Code → Obj} {Φ : Value → Chunk → Prop} {L' : Chunk} [h1 : InC L lp (rec .busy none)] [h2 : UpdC L lp (rec .done (some (.exit id))) L'] (h : Φ (.bool false) L') : roundK lp rec Φ (.exit id) ρ ds L := ⟨L', h1, h2, h⟩
theorem roundK.steady {lp : Nat} {rec : LoopState → Option Code → Obj} {Φ : Value → Chunk → Prop} : Steady (roundK lp rec Φ) := fun _ _ _ _ _ h => h

theorem St.put {w : World} {L L' : Chunk} {l : Nat} {o o' : Obj} (hs : St w0 w L) (hi : InC L l o) (hu : UpdC L l o' L') : St w0 (w.putObj l o') L' := by
  have hlt : l < w.heap.size := (Array.getElem?_eq_some_iff.1 (hs.pn _ _ hi.out)).1
  exact hs.upd hu (w.putObj l o') rfl rfl (fun _ => World.putObj_heap_same hlt) (fun k hk => World.putObj_heap_other hk)

theorem VP.yield {ps : Array Tmp} {assign body : Code} {D lp : Nat} {rec : LoopState → Option Code → Obj} {args : List Value} {Φ : Value → Chunk → Prop} (hrec : IsRec n ρ ps assign body D rec) (hin : InC L lp (rec .ready none)) (hps : ps.size = args.length)
    (hall : ps.all (· < n) = true)
    (h : ∀ w0, CW P w0 (some lp) n assign (thenK (fun ρ' ds' L' => ∃ L₁, InC L' lp (rec .ready none) ∧ UpdC L' lp (rec .busy none) L₁ ∧ CW P w0 (some lp) n body (roundK lp rec Φ) ρ' ds' L₁) (fun _ _ _ _ => False)) (updL ps.toList args ρ) [] L) :
    VP P (.func (.yield lp) #[] #[]) args L Φ noPanic := by
  intro w0 w hs
  obtain ⟨fn, tmps, hrec, hsz, hget⟩ := hrec
  have hl : w.heap[lp]? = some (.loop { state := .ready, pending := none, fn, tmps, params := ps, assign, body, defers := D }) := by rw [← hrec]; exact hs.pn _ _ hin.out
  refine .inr ⟨lp, fn, _, assign, body, rfl, run_yield hl (by simpa using hps.symm), ?_⟩
  have hfold : ((ps.zip args.toArray).foldl (fun tmps (t, a) => tmps.setIfInBounds t a) tmps) = ((ps.toList.zip args).foldl (fun tmps (t, a) => tmps.setIfInBounds t a) tmps) := by
    rw [← Array.foldl_toList]; simp
  have hrep := rep_updL ps.toList args tmps ρ (by simpa [Array.all_toList] using hall) hsz hget
  refine roundIn_of_wpIn (F := Fence.wide) trivial ?_
  simp only [hfold]
  refine wpIn_mono (h w0 _ w ⟨hrep.1, hrep.2, rfl⟩ hs) ?_
  rintro e a w1 ⟨ρ1, ds1, L1, hr1, hs1, hk⟩
  cases e with
  | normal =>
    obtain ⟨L₁, hin1, hu1, hbody⟩ := hk
    have hl1 : w1.heap[lp]? = some (.loop { state := .ready, pending := none, fn, tmps, params := ps, assign, body, defers := D }) := by rw [← hrec]; exact hs1.pn _ _ hin1.out
    refine ⟨_, run_beginRound hl1 rfl, ?_⟩
    have hs2 : St w0 (w1.putObj lp (.loop { state := .busy, pending := none, fn, tmps, params := ps, assign, body, defers := D })) L₁ := hs1.put hin1 (by rw [← hrec]; exact hu1)
    refine wpIn_mono (hbody a _ hr1 hs2) ?_
    rintro e2 a2 w2 ⟨ρ2, ds2, L2, hr2, hs2, hk2⟩
    have fin : ∀ (jump : Option Code) (L3 : Chunk), InC L2 lp (rec .busy none) → UpdC L2 lp (rec (if jump.isNone then .ready else .done) jump) L3 → Φ (.bool jump.isNone) L3 →
        ∃ v w', (Instr.endRound lp jump).run P w2 = .ok v w' ∧ endR w0 Φ noPanic (.returned v) w' := fun jump L3 hi hu hp => by
      have hl2 : w2.heap[lp]? = some (.loop { state := .busy, pending := none, fn, tmps, params := ps, assign, body, defers := D }) := by rw [← hrec]; exact hs2.pn _ _ hi.out
      refine ⟨_, _, run_endRound jump hl2, L3, hs2.put hi ?_, hp⟩
      have := hu
      rw [hrec] at this
      exact this
    cases e2 with
    | normal => obtain ⟨L3, a, b, c⟩ := hk2; exact fin none L3 a b c
    | ret => obtain ⟨L3, a, b, c⟩ := hk2; exact fin (some .ret) L3 a b c
    | exit id => obtain ⟨L3, a, b, c⟩ := hk2; exact fin (some (.exit id)) L3 a b c
    | goto t => obtain ⟨L3, a, b, c⟩ := hk2; exact fin (some (.goto t)) L3 a b c
    | panic c => exact hk2.elim
    | outgrown => exact hk2.elim
  | exit id => exact hk.elim
  | goto t => exact hk.elim
  | ret => exact hk.elim
  | panic c => exact hk.elim
  | outgrown => exact hk.elim

/-- What is known but for one block. -/
class DelC (L : Chunk) (b : Nat) (o : Obj) (L₁ : outParam Chunk) : Prop where out : ∃ A B, L = A ++ (b, o) :: B ∧ L₁ = A ++ B
instance (priority := high) delHere {L : Chunk} {b : Nat} {o : Obj} : DelC ((b, o) :: L) b o L := ⟨[], L, rfl, rfl⟩
instance delThere {L L₁ : Chunk} {p : Nat × Obj} {b : Nat} {o : Obj} [h : DelC L b o L₁] : DelC (p :: L) b o (p :: L₁) := ⟨by
  obtain ⟨A, B, h1, h2⟩ := h.out; exact ⟨p :: A, B, by simp [h1], by simp [h2]⟩⟩
instance delLeft {A B A₁ : Chunk} {b : Nat} {o : Obj} [h : DelC A b o A₁] : DelC (A ++ B) b o (A₁ ++ B) := ⟨by
  obtain ⟨X, Y, h1, h2⟩ := h.out; exact ⟨X, Y ++ B, by simp [h1], by simp [h2]⟩⟩
instance delRight {A B B₁ : Chunk} {b : Nat} {o : Obj} [h : DelC B b o B₁] : DelC (A ++ B) b o (A ++ B₁) := ⟨by
  obtain ⟨X, Y, h1, h2⟩ := h.out; exact ⟨A ++ X, Y, by simp [h1], by simp [h2]⟩⟩

/-- What is known behind the function that was ranged over. -/
def rangeK (P : Program) (w0 : World) (n : Nat) (K : Post) (ρ : Env) (ds : List Deferred) (lp D : Nat) (rec : LoopState → Option Code → Obj) (L' : Chunk) : Prop :=
  (∃ L₁, DelC L' lp (rec .ready none) L₁ ∧ K .normal ρ (mk D :: ds) L₁) ∨
  (∃ c L₁, DelC L' lp (rec .done (some c)) L₁ ∧ CW P w0 none n c K ρ (mk D :: ds) L₁)
theorem rangeK.nrm {lp D : Nat} {rec : LoopState → Option Code → Obj} {L' L₁ : Chunk} [hd : DelC L' lp (rec .ready none) L₁] (h : K .normal ρ (mk D :: ds) L₁) : rangeK P w0 n K ρ ds lp D rec L' := .inl ⟨L₁, hd, h⟩
theorem rangeK.jump {lp D : Nat} {rec : LoopState → Option Code → Obj} {c : Code} {L' L₁ : Chunk} [hd : DelC L' lp (rec .done (some c)) L₁] (h : CW P w0 none n c K ρ (mk D :: ds) L₁) : rangeK P w0 n K ρ ds lp D rec L' := .inr ⟨c, L₁, hd, h⟩

theorem St.putOut {w : World} {L L' : Chunk} {l : Nat} {o : Obj} (o' : Obj) (hs : St w0 w L) (hd : DelC L l o L') : St w0 (w.putObj l o') L' := by
  obtain ⟨A, B, rfl, rfl⟩ := hd.out
  have hsub : (A ++ B).Sublist (A ++ (l, o) :: B) := List.Sublist.append (List.Sublist.refl A) (List.sublist_cons_self ..)
  refine ⟨hs.os, hs.out, List.Nodup.sublist (hsub.map _) hs.nodup, fun k x hk => ?_⟩
  have hnd := hs.nodup
  rw [List.map_append, List.map_cons, List.nodup_append, List.nodup_cons] at hnd
  obtain ⟨_, ⟨h1, _⟩, h2⟩ := hnd
  have hkl : k ≠ l := fun e => by
    subst e
    rcases List.mem_append.1 hk with hk | hk
    · exact h2 k (List.mem_map.2 ⟨_, hk, rfl⟩) k (List.mem_cons_self ..) rfl
    · exact h1 (List.mem_map.2 ⟨_, hk, rfl⟩)
  rw [World.putObj_heap_other hkl]
  exact hs.pn _ _ (hsub.subset hk)

theorem CW.rangeFunc {g : Operand} {ps : Array Tmp} {assign body : Code} {f : FuncId} {first cap : Array Value} [hx : EvO ρ g (.func (.func f) first cap)] [he : Entr P f]
    (h : ∀ lp D rec, IsRec n ρ ps assign body D rec →
      Spec P w0 f (first.toList ++ [.func (.yield lp) #[] #[]] ++ cap.toList) ((lp, rec .ready none) :: (D, .deferred (some [])) :: L) (fun _ L' => rangeK P w0 n K ρ ds lp D rec L') (fun ch L' => K (.panic ch) ρ (mk D :: ds) L')) :
    CW P w0 none n (.rangeFunc g ps assign body) K ρ ds L := by
  intro a w hr hs
  refine wpIn_rangeFunc (F := Fence.wide) fun fn _ => ?_
  let rec_ : LoopState → Option Code → Obj := fun st pe => .loop { state := st, pending := pe, fn, tmps := a.tmps, params := ps, assign, body, defers := w.heap.size }
  have hrec : IsRec n ρ ps assign body w.heap.size rec_ := ⟨fn, a.tmps, fun _ _ => rfl, hr.size, hr.get⟩
  have hev : a.eval g = .func (.func f) first cap := by rw [hr.eval]; exact hx.out
  have hs1 : St w0 ((w.alloc (.deferred (some []))).alloc (rec_ .ready none)) ((w.heap.size + 1, rec_ .ready none) :: (w.heap.size, .deferred (some [])) :: L) := by
    have h1 := (hs.alloc (.deferred (some []))).alloc (rec_ .ready none)
    simp only [Array.size_push] at h1
    exact h1
  generalize hW1 : (w.alloc (.deferred (some []))).alloc (rec_ .ready none) = W1 at hs1
  refine ⟨w.heap.size + 1, [mk w.heap.size], W1, { target := .fn (.func f) cap, args := first ++ #[.func (.yield (w.heap.size + 1)) #[] #[]] }, W1, f, first ++ #[.func (.yield (w.heap.size + 1)) #[] #[]] ++ cap, W1, hW1 ▸ run_enterLoop_outer _ _ _ _ _, ?_, fun _ _ => trivial, ?_, (fun hd => (Bool.noConfusion (show false = true from hd))), ?_⟩
  · simp only [resolve, hev, Deferred.ofValue]
    simp [Sem.run_pure, Act.eval]
  · simp only [invoke]; exact he.run _ _
  · have e1 : (first.toList ++ [Value.func (.yield (w.heap.size + 1)) #[] #[]] ++ cap.toList).toArray = first ++ #[Value.func (.yield (w.heap.size + 1)) #[] #[]] ++ cap := by simp
    have h2 := h (w.heap.size + 1) w.heap.size rec_ hrec _ hs1
    rw [e1] at h2
    refine CallsIn.mono h2 ?_
    have hrep : Rep n { a with defers := [mk w.heap.size] ++ a.defers } ρ (mk w.heap.size :: ds) := ⟨hr.size, hr.get, by simp [hr.ds]⟩
    intro e w3 he3
    cases e with
    | returned v =>
      obtain ⟨L', hs3, (⟨L₂, hd, hk⟩ | ⟨c, L₂, hd, hk⟩)⟩ := he3
      · obtain ⟨A, B, e1, e2⟩ := hd.out
        have hl3 := hs3.pn _ _ (e1 ▸ List.mem_append_right A (List.mem_cons_self ..))
        exact ⟨none, _, run_endLoop hl3 (by simp), _, _, L₂, hrep, hs3.putOut _ hd, hk⟩
      · obtain ⟨A, B, e1, e2⟩ := hd.out
        have hl3 := hs3.pn _ _ (e1 ▸ List.mem_append_right A (List.mem_cons_self ..))
        exact ⟨some c, _, run_endLoop hl3 (by simp), hk _ _ hrep (hs3.putOut _ hd)⟩
    | panicked ch =>
      obtain ⟨L', hs3, hk⟩ := he3
      exact ⟨_, _, L', hrep, hs3, hk⟩
    | outgrown => exact he3.elim

/-! ### leaving -/
/-- The contract of a function that is called as a deferred one, in a mode. -/
def DSpec (P : Program) (w0 : World) (f : FuncId) (args : List Value) (u : FrameMode) (L : Chunk) (R : Ending → FrameMode → Chunk → Prop) : Prop :=
  ∀ w, St w0 w L → CallsDIn Fence.wide 0 P f args.toArray u w fun e u' w' => ∃ L', St w0 w' L' ∧ R e u' L'

def Lv (P : Program) (w0 : World) (fn : Func) (Φ : Value → Chunk → Prop) (Ψ : List PanicEntry → Chunk → Prop) : List Deferred → FrameMode → Env → Chunk → Prop
  | [], .returning, ρ, L => ∃ v L', L'.Sublist L ∧ Res P fn ρ L v ∧ Φ v L'
  | [], .panicking ch, _, L => ∃ L', L'.Sublist L ∧ Ψ ch L'
  | [], .run, _, _ => False
  | d :: ds, u, ρ, L => u ≠ .run ∧
      ((∃ D L', d = mk D ∧ InC L D (.deferred (some [])) ∧ UpdC L D (.deferred none) L' ∧ Lv P w0 fn Φ Ψ ds u ρ L') ∨
       (∃ f cap args, d = { target := .fn (.func f) cap, args := args } ∧ Entr P f ∧ DSpec P w0 f (args.toList ++ cap.toList) u L fun
          | .returned _, u', L' => Lv P w0 fn Φ Ψ ds (settle u') ρ L'
          | .panicked ch, u', L' => Lv P w0 fn Φ Ψ ds (raised u' ch) ρ L'
          | .outgrown, _, _ => False))

theorem Lv.leaves {fn : Func} {Φ : Value → Chunk → Prop} {Ψ : List PanicEntry → Chunk → Prop} : ∀ (ds : List Deferred) (u : FrameMode) (L : Chunk) (tmps : Array Value) (ρ : Env) (w : World), (∀ t, tmps.getD t undef = ρ t) → St w0 w L →
    Lv P w0 fn Φ Ψ ds u ρ L → LeavesInM Fence.wide 0 P fn tmps (endR w0 Φ Ψ) ds u w
  | [], .returning, L, tmps, ρ, w, hg, hs, h => by
    obtain ⟨v, L', hsub, hres, hp⟩ := h
    exact ⟨v, hres tmps w hg hs.pn, L', hs.drop hsub, hp⟩
  | [], .panicking ch, L, tmps, ρ, w, hg, hs, h => by
    obtain ⟨L', hsub, hp⟩ := h
    exact ⟨L', hs.drop hsub, hp⟩
  | [], .run, _, _, _, _, _, _, h => h.elim
  | d :: ds, u, L, tmps, ρ, w, hg, hs, h => by
    obtain ⟨hu, h⟩ := h
    refine ⟨hu, ?_⟩
    rcases h with ⟨D, L', rfl, hin, hup, h⟩ | ⟨f, cap, args, rfl, he, h⟩
    · exact .inl ⟨D, _, rfl, run_takeDeferred (hs.pn _ _ hin.out), Lv.leaves ds u L' tmps ρ _ hg (hs.put hin hup) h⟩
    · refine Or.inr ⟨(fun hd => (Bool.noConfusion (show false = true from hd))), Fn.func f, cap, f, args ++ cap, rfl, by simp only [invoke]; exact he.run _ _, fun _ _ => trivial, ?_⟩
      have h2 := h w hs
      have e1 : (args.toList ++ cap.toList).toArray = args ++ cap := by simp
      rw [e1] at h2
      refine CallsDIn.mono h2 ?_
      rintro e u' w' ⟨L', hs', hr⟩
      cases e with
      | returned v => exact Lv.leaves ds _ L' tmps ρ w' hg hs' hr
      | panicked ch => exact Lv.leaves ds _ L' tmps ρ w' hg hs' hr
      | outgrown => exact hr.elim

def bodyM (P : Program) (w0 : World) (fn : Func) (Φ : Value → Chunk → Prop) (Ψ : List PanicEntry → Chunk → Prop) : Post
  | .normal, ρ, ds, L | .ret, ρ, ds, L => Lv P w0 fn Φ Ψ ds .returning ρ L
  | .panic ch, ρ, ds, L => Lv P w0 fn Φ Ψ ds (.panicking ch) ρ L
  | _, _, _, _ => False

/-- A function whose body defers, or ranges over a function. -/
theorem Spec.enterM {f : FuncId} {fn : Func} {c : Code} {args : List Value} {ρ0 : Env} {n : Nat} {L : Chunk} {Φ : Value → Chunk → Prop} {Ψ : List PanicEntry → Chunk → Prop}
    (hf : P.funcs[f]? = some fn) (hb : fn.body = some c) (hn : fn.ntmps = n) (hle : args.length ≤ n) (hρ : ∀ t, args.getD t undef = ρ0 t)
    (h : CW P w0 none n c (bodyM P w0 fn Φ Ψ) ρ0 [] L) : Spec P w0 f args L Φ Ψ := by
  intro w hs
  refine callsIn_of_wp_marks hf hb trivial ?_
  subst hn
  have hrep : Rep fn.ntmps { tmps := args.toArray ++ Array.replicate (fn.ntmps - args.toArray.size) undef, defers := [] } ρ0 [] := by
    refine ⟨by simp; omega, fun t => ?_, rfl⟩
    rw [← hρ t]
    simp only [Array.getD_eq_getD_getElem?, List.getD_eq_getElem?_getD, Array.getElem?_append, List.size_toArray, List.getElem?_toArray]
    split
    · rfl
    · rename_i hge
      rw [List.getElem?_eq_none (by omega)]
      simp [Array.getElem?_replicate]
      split <;> rfl
  refine wpIn_mono (h _ w hrep hs) ?_
  intro e a w' ⟨ρ, ds, L', hr, hst, hk⟩
  cases e with
  | normal => have := Lv.leaves _ _ _ _ _ _ hr.get hst hk; rw [← hr.ds] at this; exact this
  | ret => have := Lv.leaves _ _ _ _ _ _ hr.get hst hk; rw [← hr.ds] at this; exact this
  | panic ch => have := Lv.leaves _ _ _ _ _ _ hr.get hst hk; rw [← hr.ds] at this; exact this
  | exit id => exact hk
  | goto l => exact hk
  | outgrown => exact hk

theorem Spec.enterM1 {f : FuncId} {fn : Func} {c : Code} {Φ : Value → Chunk → Prop} {Ψ : List PanicEntry → Chunk → Prop} {v0 : Value} (hf : P.funcs[f]? = some fn) (hb : fn.body = some c) (hn : fn.ntmps = n) (hle : 1 ≤ n) (h : CW P w0 none n c (bodyM P w0 fn Φ Ψ) (upd und 0 v0) [] L) : Spec P w0 f [v0] L Φ Ψ :=
  Spec.enterM hf hb hn hle (fun t => by unfold upd und; split <;> simp_all) h
theorem Spec.enterM2 {f : FuncId} {fn : Func} {c : Code} {Φ : Value → Chunk → Prop} {Ψ : List PanicEntry → Chunk → Prop} {v0 v1 : Value} (hf : P.funcs[f]? = some fn) (hb : fn.body = some c) (hn : fn.ntmps = n) (hle : 2 ≤ n) (h : CW P w0 none n c (bodyM P w0 fn Φ Ψ) (upd (upd und 0 v0) 1 v1) [] L) : Spec P w0 f [v0, v1] L Φ Ψ :=
  Spec.enterM hf hb hn hle (fun t => by rcases t with _ | _ | t <;> simp [upd, und]) h
variable {fn : Func} {Φ : Value → Chunk → Prop} {Ψ : List PanicEntry → Chunk → Prop}
theorem bodyM.ret (hr : Res P fn ρ L v) (h : Φ v L) : bodyM P w0 fn Φ Ψ .ret ρ [] L := ⟨v, L, List.Sublist.refl L, hr, h⟩
theorem bodyM.retD (L' : Chunk) [hs : SubC L' L] (hr : Res P fn ρ L v) (h : Φ v L') : bodyM P w0 fn Φ Ψ .ret ρ [] L := ⟨v, L', hs.out, hr, h⟩
theorem bodyM.nrmD (L' : Chunk) [hs : SubC L' L] (hr : Res P fn ρ L v) (h : Φ v L') : bodyM P w0 fn Φ Ψ .normal ρ [] L := ⟨v, L', hs.out, hr, h⟩
/-- With one mark. -/
theorem bodyM.retM {D : Nat} {L1 : Chunk} [hi : InC L D (.deferred (some []))] [hu : UpdC L D (.deferred none) L1] (L' : Chunk) [hs : SubC L' L1] (hr : Res P fn ρ L1 v) (h : Φ v L') : bodyM P w0 fn Φ Ψ .ret ρ [mk D] L :=
  ⟨by simp, .inl ⟨D, L1, rfl, hi, hu, v, L', hs.out, hr, h⟩⟩
theorem bodyM.nrmM {D : Nat} {L1 : Chunk} [hi : InC L D (.deferred (some []))] [hu : UpdC L D (.deferred none) L1] (L' : Chunk) [hs : SubC L' L1] (hr : Res P fn ρ L1 v) (h : Φ v L') : bodyM P w0 fn Φ Ψ .normal ρ [mk D] L :=
  ⟨by simp, .inl ⟨D, L1, rfl, hi, hu, v, L', hs.out, hr, h⟩⟩
end
end Go.Pw

namespace Go.Pw
class MemC (L L' : Chunk) : Prop where out : ∀ p ∈ L, p ∈ L'
instance (priority := high) memRefl {L : Chunk} : MemC L L := ⟨fun _ h => h⟩
instance (priority := high) memNil {L : Chunk} : MemC [] L := ⟨fun _ h => by cases h⟩
instance memCons {L L' : Chunk} {b : Nat} {o : Obj} [h1 : InC L' b o] [h : MemC L L'] : MemC ((b, o) :: L) L' := ⟨fun p hp => by
 rcases List.mem_cons.1 hp with rfl | hp
 ·exact h1.out
 ·exact h.out p hp⟩
instance memApp {A B L' : Chunk} [h1 : MemC A L'] [h2 : MemC B L'] : MemC (A ++ B) L' := ⟨fun p hp => (List.mem_append.1 hp).elim (h1.out p) (h2.out p)⟩
instance memThere {L L' : Chunk} {p : Nat × Obj} [h : MemC L L'] : MemC L (p :: L') := ⟨fun q hq => List.mem_cons_of_mem _ (h.out q hq)⟩
instance memLeft {L A B : Chunk} [h : MemC L A] : MemC L (A ++ B) := ⟨fun q hq => List.mem_append_left _ (h.out q hq)⟩
instance memRight {L A B : Chunk} [h : MemC L B] : MemC L (A ++ B) := ⟨fun q hq => List.mem_append_right _ (h.out q hq)⟩
theorem Rd.to {L L' : Chunk} {s n : Nat} {v : Value} {xs : List Value} (h : Rd L s v n xs) [hm : MemC L L'] : Rd L' s v n xs := h.mono hm.out
theorem Row.to {L' N : Chunk} {e : TypeId} {s n : Nat} {v : Value} {xs : List Value} (h : Row e s N v n xs) [hm : MemC N L'] : Rd L' s v n xs := h.rd.mono hm.out
class ToN (j : Int) (i : outParam Nat) : Prop where out : j.toNat = i
instance (priority := high) toNCast {i : Nat} : ToN (i : Int) i := ⟨rfl⟩
instance (priority := high) toNLit {n : Nat} : ToN (@OfNat.ofNat Int n instOfNat) n := ⟨rfl⟩
instance (priority := low) toNAny {j : Int} : ToN j j.toNat := ⟨rfl⟩
class MulN (a b : Nat) (c : outParam Nat) : Prop where out : a * b = c
instance (priority := high) mulOne {a : Nat} : MulN a 1 a := ⟨Nat.mul_one a⟩
instance (priority := high) zeroMul {a : Nat} : MulN 0 a 0 := ⟨Nat.zero_mul a⟩
instance mulAny {a b : Nat} : MulN a b (a * b) := ⟨rfl⟩
theorem Rd.open {L : Chunk} {s n : Nat} {v : Value} {xs : List Value} (h : Rd L s v n xs) (hn : n ≠ 0) :
  ∃ b k cap l e fr, v = .slice (some ⟨b, k, none⟩) n cap ∧ InC L b (.cells (List.toArray l) e fr) ∧ n ≤ cap ∧ ∀ i, i < n → CutL l (k + i * s) s ((xs.drop (i * s)).take s) := by
 rcases h.2 with ⟨_, h2⟩ | ⟨b, k, cap, c, e, fr, h1, h2, h3, h4, h5⟩
 ·exact absurd h2 hn
 ·refine ⟨b, k, cap, c.toList, e, fr, h1, ⟨by simpa using h2⟩, h5, fun i hi => ⟨?_, ?_⟩⟩
  ·have : (i + 1) * s ≤ n * s := Nat.mul_le_mul_right _ hi
   rw [Nat.add_mul] at this
   simp; omega
  ·rw [← h4]
   have : (i + 1) * s ≤ n * s := Nat.mul_le_mul_right _ hi
   rw [Nat.add_mul] at this
   simp only [List.drop_take, List.drop_drop, List.take_take]
   congr 1
   omega
theorem CutL.nth {l l' : List Value} {k : Nat} {v : Value} (h : CutL l k 1 l') (hv : l' = [v]) : NthL l k v := ⟨by
 obtain ⟨h1, h2⟩ := h.out
 rw [hv] at h2
 have h3 : l.drop k = l[k] :: l.drop (k + 1) := List.drop_eq_getElem_cons (by omega)
 rw [h3, List.take_succ_cons, List.take_zero] at h2
 rw [List.getElem?_eq_getElem (by omega), (List.cons.inj h2).1]⟩
section
variable {P : Program} {w0 : World} {rd : Option Nat} {n : Nat} {K : Post} {ρ : Env} {ds : List Deferred} {L R : Chunk} {ops : Array Oper} {l : List Oper}
variable {dst : Option Tmp} {d : Nat} {op : Op} {ty : TypeId} {pos : String} {after : Array Edge} {v : Value}
theorem OW.ix {t e : TypeId} {x i : Operand} {b k m c sz j' o k' : Nat} {kk : IntKind} {j : Int} [ht : Und P t (.slice e)] [hz : Siz P e sz] [hx : EvO ρ x (.slice (some ⟨b, k, none⟩) m c)] [hi : EvO ρ i (.int kk j)] [hj : ToN j j'] [ho : MulN j' sz o] [hk : AddN k o k']
  (h : 0 ≤ j ∧ j < m) (next : OW P w0 rd n ops K l (upd ρ d (.pointer (some ⟨b, k', none⟩))) ds L) : OW P w0 rd n ops K (⟨some d, .indexAddr t x i, ty, pos, after, none⟩ :: l) ρ ds L :=
 OW.val (yl_indexAddr ht hz hx hi h.1 h.2 (by rw [hj.out, ho.out, hk.out])) next
theorem RW.ix {t e : TypeId} {x i : Operand} {b k m c sz j' o k' : Nat} {kk : IntKind} {j : Int} {g : Option (Nat × Bool)} [hg : GdT ops ρ g] [ht : Und P t (.slice e)] [hz : Siz P e sz] [hx : EvO ρ x (.slice (some ⟨b, k, none⟩) m c)] [hi : EvO ρ i (.int kk j)] [hj : ToN j j'] [ho : MulN j' sz o] [hk : AddN k o k']
  (h : 0 ≤ j ∧ j < m) (next : RW P w0 rd n ops K l R (upd ρ d (.pointer (some ⟨b, k', none⟩))) ds L) : RW P w0 rd n ops K (⟨some d, .indexAddr t x i, ty, pos, after, g⟩ :: l) R ρ ds L :=
 RW.p' hg.out rfl (yl_indexAddr ht hz hx hi h.1 h.2 (by rw [hj.out, ho.out, hk.out])) next
theorem OW.ixA {t e : TypeId} {x i : Operand} {b k m sz j' o k' : Nat} {kk : IntKind} {j : Int} [ht : Und P t (.array m e)] [hz : Siz P e sz] [hx : EvO ρ x (.pointer (some ⟨b, k, none⟩))] [hi : EvO ρ i (.int kk j)] [hj : ToN j j'] [ho : MulN j' sz o] [hk : AddN k o k']
  (h : 0 ≤ j ∧ j < m) (next : OW P w0 rd n ops K l (upd ρ d (.pointer (some ⟨b, k', none⟩))) ds L) : OW P w0 rd n ops K (⟨some d, .indexAddr t x i, ty, pos, after, none⟩ :: l) ρ ds L :=
 OW.val (yl_indexAddrArr ht hz hx hi h.1 h.2 (by rw [hj.out, ho.out, hk.out])) next
theorem RW.ixA {t e : TypeId} {x i : Operand} {b k m sz j' o k' : Nat} {kk : IntKind} {j : Int} {g : Option (Nat × Bool)} [hg : GdT ops ρ g] [ht : Und P t (.array m e)] [hz : Siz P e sz] [hx : EvO ρ x (.pointer (some ⟨b, k, none⟩))] [hi : EvO ρ i (.int kk j)] [hj : ToN j j'] [ho : MulN j' sz o] [hk : AddN k o k']
  (h : 0 ≤ j ∧ j < m) (next : RW P w0 rd n ops K l R (upd ρ d (.pointer (some ⟨b, k', none⟩))) ds L) : RW P w0 rd n ops K (⟨some d, .indexAddr t x i, ty, pos, after, g⟩ :: l) R ρ ds L :=
 RW.p' hg.out rfl (yl_indexAddrArr ht hz hx hi h.1 h.2 (by rw [hj.out, ho.out, hk.out])) next
def slV (v : Value) (lo hi s : Nat) : Value := match v with
 | .slice a n c => .slice (if c = lo then a else a.map (·.add (lo * s))) (hi - lo) (c - lo)
 | v => v
theorem Rd.isSlice {L : Chunk} {s n : Nat} {v : Value} {xs : List Value} (h : Rd L s v n xs) : ∃ a cap, v = .slice a n cap ∧ n ≤ cap := by
 rcases h.2 with ⟨⟨a, cap, h1⟩, h2⟩ | ⟨b, k, cap, c, e, fr, h1, h2, h3, h4, h5⟩
 ·exact ⟨a, cap, by rw [h1, h2], by omega⟩
 ·exact ⟨_, _, h1, h5⟩
theorem Rd.sl {L : Chunk} {s m : Nat} {v : Value} {xs : List Value} (h : Rd L s v m xs) {lo hi : Nat} (h1 : lo ≤ hi) (h2 : hi ≤ m) : Rd L s (slV v lo hi s) (hi - lo) ((xs.drop (lo * s)).take ((hi - lo) * s)) := by
 have e0 : hi * s ≤ m * s := Nat.mul_le_mul_right _ h2
 have e1 : (hi - lo) * s + lo * s = hi * s := by rw [← Nat.add_mul]; congr 1; omega
 refine ⟨?_, ?_⟩
 ·have := h.1; simp; omega
 ·rcases h.2 with ⟨⟨a, cap, rfl⟩, h4⟩ | ⟨b, k, cap, c, e, fr, rfl, h4, h5, h6, h7⟩
  ·obtain ⟨rfl, rfl⟩ : lo = 0 ∧ hi = 0 := by omega
   exact .inl ⟨⟨_, _, rfl⟩, by omega⟩
  ·by_cases hc : cap = lo
   ·refine .inr ⟨b, k, cap - lo, c, e, fr, by simp [slV, hc], h4, ?_, ?_, by omega⟩
    ·have : hi - lo = 0 := by omega
     simp [this]; omega
    ·have : hi - lo = 0 := by omega
     simp [this]
   ·have hadd : (⟨b, k, none⟩ : Addr).add (lo * s) = ⟨b, k + lo * s, none⟩ := by unfold Addr.add; split <;> simp_all
    refine .inr ⟨b, k + lo * s, cap - lo, c, e, fr, by simp [slV, hc, hadd], h4, by omega, ?_, by omega⟩
    rw [← h6]
    simp only [List.drop_take, List.drop_drop, List.take_take]
    congr 1
    omega
theorem yl_slHi {t e : TypeId} {x hi : Operand} {s m h' : Nat} {kk : IntKind} {j : Int} {xs : List Value} {L' : Chunk} (ht : Und P t (.slice e)) (hz : Siz P e s) (hx : EvO ρ x v) (hh : EvO ρ hi (.int kk j)) (hj : ToN j h') (hrd : Rd L' s v m xs) (h : 0 ≤ j ∧ j ≤ m) :
  Yl P ρ L (.slice t x none (some hi) none) ty (slV v 0 h' s) :=
 yl_of_run (fun c h => (by cases h)) fun w o ho _ _ => by
  obtain ⟨a, cap, rfl, hle⟩ := hrd.isSlice
  have h1 : j ≤ cap := by omega
  have hj' := hj.out
  unfold execOp
  simp [ho, hx.out, hh.out, Instr.sliceAt, Instr.slice, Instr.sliceBounds, Instr.sliceBound, asIntOf, run_underlying ht.out, h.1, h1, hz.out, slV, hj']
theorem yl_slLo {t e : TypeId} {x lo : Operand} {s m l' : Nat} {kk : IntKind} {j : Int} {xs : List Value} {L' : Chunk} (ht : Und P t (.slice e)) (hz : Siz P e s) (hx : EvO ρ x v) (hh : EvO ρ lo (.int kk j)) (hj : ToN j l') (hrd : Rd L' s v m xs) (h : 0 ≤ j ∧ j ≤ m) :
  Yl P ρ L (.slice t x (some lo) none none) ty (slV v l' m s) :=
 yl_of_run (fun c h => (by cases h)) fun w o ho _ _ => by
  obtain ⟨a, cap, rfl, hle⟩ := hrd.isSlice
  have hj' := hj.out
  unfold execOp
  simp [ho, hx.out, hh.out, Instr.sliceAt, Instr.slice, Instr.sliceBounds, Instr.sliceBound, asIntOf, run_underlying ht.out, h.1, h.2, hz.out, slV, hj']
theorem OW.slHi {t e : TypeId} {x hi : Operand} {s m h' : Nat} {kk : IntKind} {j : Int} {xs : List Value} {L' : Chunk} [ht : Und P t (.slice e)] [hz : Siz P e s] [hx : EvO ρ x v] [hh : EvO ρ hi (.int kk j)] [hj : ToN j h'] (hrd : Rd L' s v m xs) (h : 0 ≤ j ∧ j ≤ m)
  (next : OW P w0 rd n ops K l (upd ρ d (slV v 0 h' s)) ds L) : OW P w0 rd n ops K (⟨some d, .slice t x none (some hi) none, ty, pos, after, none⟩ :: l) ρ ds L := OW.val (yl_slHi ht hz hx hh hj hrd h) next
theorem OW.slLo {t e : TypeId} {x lo : Operand} {s m l' : Nat} {kk : IntKind} {j : Int} {xs : List Value} {L' : Chunk} [ht : Und P t (.slice e)] [hz : Siz P e s] [hx : EvO ρ x v] [hh : EvO ρ lo (.int kk j)] [hj : ToN j l'] (hrd : Rd L' s v m xs) (h : 0 ≤ j ∧ j ≤ m)
  (next : OW P w0 rd n ops K l (upd ρ d (slV v l' m s)) ds L) : OW P w0 rd n ops K (⟨some d, .slice t x (some lo) none none, ty, pos, after, none⟩ :: l) ρ ds L := OW.val (yl_slLo ht hz hx hh hj hrd h) next
theorem RW.slHi {t e : TypeId} {x hi : Operand} {s m h' : Nat} {kk : IntKind} {j : Int} {xs : List Value} {L' : Chunk} {g : Option (Nat × Bool)} [hg : GdT ops ρ g] [ht : Und P t (.slice e)] [hz : Siz P e s] [hx : EvO ρ x v] [hh : EvO ρ hi (.int kk j)] [hj : ToN j h'] (hrd : Rd L' s v m xs) (h : 0 ≤ j ∧ j ≤ m)
  (next : RW P w0 rd n ops K l R (upd ρ d (slV v 0 h' s)) ds L) : RW P w0 rd n ops K (⟨some d, .slice t x none (some hi) none, ty, pos, after, g⟩ :: l) R ρ ds L := RW.p' hg.out rfl (yl_slHi ht hz hx hh hj hrd h) next
theorem RW.slLo {t e : TypeId} {x lo : Operand} {s m l' : Nat} {kk : IntKind} {j : Int} {xs : List Value} {L' : Chunk} {g : Option (Nat × Bool)} [hg : GdT ops ρ g] [ht : Und P t (.slice e)] [hz : Siz P e s] [hx : EvO ρ x v] [hh : EvO ρ lo (.int kk j)] [hj : ToN j l'] (hrd : Rd L' s v m xs) (h : 0 ≤ j ∧ j ≤ m)
  (next : RW P w0 rd n ops K l R (upd ρ d (slV v l' m s)) ds L) : RW P w0 rd n ops K (⟨some d, .slice t x (some lo) none none, ty, pos, after, g⟩ :: l) R ρ ds L := RW.p' hg.out rfl (yl_slLo ht hz hx hh hj hrd h) next
instance op1SliceArr {t e : TypeId} {x : Operand} {b k m s : Nat} [ht : Und P t (.array m e)] [hz : Siz P e s] [hx : EvO ρ x (.pointer (some ⟨b, k, none⟩))] : Op1 P ρ L (.slice t x none none none) ty (.slice (some ⟨b, k, none⟩) m m) :=
 ⟨yl_of_run (fun c h => (by cases h)) fun w o ho _ _ => by
  have hadd : (⟨b, k, none⟩ : Addr).add 0 = ⟨b, k, none⟩ := by unfold Addr.add; split <;> simp_all
  unfold execOp
  simp [ho, hx.out, Instr.sliceAt, Instr.sureAddr, Instr.sliceBounds, run_underlying ht.out, hz.out, hadd]⟩
theorem ef_makeSlice {t e : TypeId} {x y : Operand} {k k' : IntKind} {a c a' c' bytes : Nat} {i j : Int} {z : Value} (ht : Und P t (.slice e)) (hz : Siz P e 1) (hzv : Zer P e z) (hsn : Sng z) (hby : Byt P e bytes) (hx : EvO ρ x (.int k i)) (hy : EvO ρ y (.int k' j))
  (h1 : ToN i a) (h2 : ToN j c) (h : 0 ≤ i ∧ i ≤ j ∧ j ≤ 140737488355328 ∧ j * bytes ≤ 140737488355328) : Ef P ρ L (.makeSlice t x y) ty (fun v L' => ∃ b, v = .slice (some ⟨b, 0, none⟩) a c ∧ L' = (b, .cells (List.replicate c z).toArray e (0, 0)) :: L) noPanic := by
 refine ⟨fun c h => (by cases h), fun w0 w rd a₀ next Q o ho hty ha hst hn _ => ?_⟩
 obtain ⟨inf, hi, hib⟩ := hby.out
 have hti : ∀ w, (typeInfo e).run P w = .ok inf w := fun w => by simp [typeInfo, hi]
 have e1 : IntKind.i64.wrap i = i := IntWalk.i64_in i (by omega)
 have e2 : IntKind.i64.wrap j = j := IntWalk.i64_in j (by omega)
 have hb : (inf.bytes : Int) * j ≤ 140737488355328 := by rw [hib, Int.mul_comm]; exact h.2.2.2
 have hrun : (execOp (ev ρ) o).run P w = .ok (.value (.slice (some ⟨w.heap.size, 0, none⟩) a c)) { w with heap := w.heap.push (.cells (List.replicate c z).toArray e) } := by
  have n1 : ¬ j < 0 := by omega
  have n2 : ¬ i < 0 := by omega
  have n3 : ¬ i > j := by omega
  have n4 : ¬ ((inf.bytes : Int) * j > 2 ^ 48) := by omega
  have hcell : (if c = 0 then (#[] : Array Value) else #[z]) = if c = 0 then #[] else #[z] := rfl
  have hc := hsn.out.1
  have h1' := h1.out
  have h2' := h2.out
  have hrow : ∀ zs : Array Value, (zs = if c = 0 then #[] else #[z]) → (Array.range c).map (fun m => zs[m % zs.size]!) = (List.replicate c z).toArray := fun zs hzs => by
   by_cases hc0 : c = 0
   ·subst hc0; simp
   ·rw [hzs, if_neg hc0]
    apply Array.ext
    ·simp
    ·intro m hm1 hm2
     simp [Nat.mod_one]
  unfold execOp
  have hask : (askRoom (c * inf.bytes)).run P w = .ok () w := by unfold askRoom; split <;> simp [mark, Sem.run]
  simp only [ho, Instr.makeSlice, hx.out, hy.out, Sem.run_bind, run_underlying ht.out, Result.andThen_ok, asInt, asIntOf, Sem.run_pure, hti, e1, e2, n1, n2, n3, n4, decide_false, Bool.or_false, Bool.false_or, Bool.false_eq_true, if_false, hz.out, h1', h2', Nat.mul_one, hask]
  by_cases hc0 : c = 0
  ·subst hc0
   simp only [if_true, Sem.run_bind, Sem.run_pure, Result.andThen_ok, run_newRow, hrow #[] (by simp)]
  ·simp only [hc0, if_false, Sem.run_bind, hzv.out, Result.andThen_ok, Sem.run_pure, hc, hrow #[z] (by rw [if_neg hc0]), run_newRow]
 rw [hrun]
 exact hn _ _ _ (hst.alloc _) ⟨_, rfl, rfl⟩
theorem OW.makeSlice {t e : TypeId} {x y : Operand} {k k' : IntKind} {a c bytes : Nat} {i j : Int} {z : Value} [ht : Und P t (.slice e)] [hz : Siz P e 1] [hzv : Zer P e z] [hsn : Sng z] [hby : Byt P e bytes] [hx : EvO ρ x (.int k i)] [hy : EvO ρ y (.int k' j)] [h1 : ToN i a] [h2 : ToN j c]
  (h : 0 ≤ i ∧ i ≤ j ∧ j ≤ 140737488355328 ∧ j * bytes ≤ 140737488355328) (next : ∀ b, OW P w0 rd n ops K l (upd ρ d (.slice (some ⟨b, 0, none⟩) a c)) ds ((b, .cells (List.replicate c z).toArray e (0, 0)) :: L)) :
  OW P w0 rd n ops K (⟨some d, .makeSlice t x y, ty, pos, after, none⟩ :: l) ρ ds L :=
 OW.eff (ef_makeSlice (a' := a) (c' := c) ht hz hzv hsn hby hx hy h1 h2 h) (fun v L' ⟨b, h1, h2⟩ => by subst h1 h2; exact next b) (fun _ _ h => h.elim)
def bstr (xs : List Int) : ByteArray := ⟨(xs.map fun x => UInt8.ofNat x.toNat).toArray⟩
theorem bstr_fold : ∀ (xs : List Int) (s : ByteArray), (xs.foldl (fun r n => r.push (UInt8.ofNat n.toNat)) s).data.toList = s.data.toList ++ xs.map fun x => UInt8.ofNat x.toNat
 | [], s => by simp
 | x :: xs, s => by
  rw [List.foldl_cons, bstr_fold xs]
  simp
theorem bstr_eq (xs : List Int) : xs.foldl (fun r n => r.push (UInt8.ofNat n.toNat)) ByteArray.empty = bstr xs := by
 have := bstr_fold xs ByteArray.empty
 apply ByteArray.ext
 apply Array.ext'
 rw [this]
 simp [bstr]
def bv (xs : List Int) : List Value := xs.map (Value.int .u8)
def Byt8 (xs : List Int) : Prop := ∀ x ∈ xs, 0 ≤ x ∧ x < 256
theorem yl_bytesStr {t t2 e : TypeId} {x : Operand} {m : Nat} {xs : List Int} {L' : Chunk} (ht : Und P t (.slice e)) (he : Und P e (.int .u8)) (hd : Und P t2 .string) (hx : EvO ρ x v) (hrd : Rd L' 1 v m (bv xs)) (hs : ∀ p ∈ L', p ∈ L) : Yl P ρ L (.convert t t2 x) ty (.string (bstr xs)) :=
 yl_of_run (fun c h => (by cases h)) fun w o ho _ hp => by
  have hpn : Pn w L' := hp.sub hs
  have hcv : (convert t t2 v).run P w = .ok (.string (bstr xs)) w := by
   rcases hrd.2 with ⟨⟨a, cap, rfl⟩, h0⟩ | ⟨b, k, cap, c, e', fr, rfl, h2, h3, h4, h5⟩
   ·have hxs : xs = [] := by
     have := hrd.1
     rw [h0] at this
     simpa [bv] using this
    subst hxs
    rw [run_convert_bytes_string w t t2 e a 0 cap ht.out he.out hd.out]
    cases a with
    | none =>
     simp [Conv.bytesToString, Sem.run_pure]
     rfl
    | some a =>
     rw [run_bytesToString w _ 0 cap [], bstr_eq]
     rw [run_loadCells0]; rfl
   ·rw [run_convert_bytes_string w t t2 e _ m cap ht.out he.out hd.out, run_bytesToString w _ m cap xs, bstr_eq]
    have := run_loadCells_rd (P := P) (n := m) (hpn _ _ h2) (by simpa using h3)
    rw [this]
    simp only [Nat.mul_one] at h4
    rw [h4]; rfl
  unfold execOp
  simp only [ho, hx.out, Sem.run_bind, hcv, Result.andThen_ok, Sem.run_pure]
theorem OW.bytesStr {t t2 e : TypeId} {x : Operand} {m : Nat} {xs : List Int} {L' : Chunk} [ht : Und P t (.slice e)] [he : Und P e (.int .u8)] [hd : Und P t2 .string] [hx : EvO ρ x v] (hrd : Rd L' 1 v m (bv xs)) [hs : MemC L' L]
  (next : OW P w0 rd n ops K l (upd ρ d (.string (bstr xs))) ds L) : OW P w0 rd n ops K (⟨some d, .convert t t2 x, ty, pos, after, none⟩ :: l) ρ ds L := OW.val (yl_bytesStr ht he hd hx hrd hs.out) next
theorem RW.bytesStr {t t2 e : TypeId} {x : Operand} {m : Nat} {xs : List Int} {L' : Chunk} {g : Option (Nat × Bool)} [hg : GdT ops ρ g] [ht : Und P t (.slice e)] [he : Und P e (.int .u8)] [hd : Und P t2 .string] [hx : EvO ρ x v] (hrd : Rd L' 1 v m (bv xs)) [hs : MemC L' R]
  (next : RW P w0 rd n ops K l R (upd ρ d (.string (bstr xs))) ds L) : RW P w0 rd n ops K (⟨some d, .convert t t2 x, ty, pos, after, g⟩ :: l) R ρ ds L := RW.p' hg.out rfl (yl_bytesStr ht he hd hx hrd hs.out) next
instance decStr : DecidableEq ByteArray := ii
theorem str_eq (a b : ByteArray) : (a.toList == b.toList) = decide (a = b) := by
 rw [ByteArray.toList_eq, ByteArray.toList_eq]
 obtain ⟨⟨x⟩⟩ := a
 obtain ⟨⟨y⟩⟩ := b
 by_cases h : x = y
 ·simp [h]
 ·have h1 : ¬ (x == y) = true := by simpa using h
  have h2 : ¬ ((⟨⟨x⟩⟩ : ByteArray) = ⟨⟨y⟩⟩) := fun e => h (by injection e with e; injection e)
  rw [decide_eq_false h2]
  simpa using h
instance op1EqlStr {t yt : TypeId} {x y : Operand} {a b : ByteArray} [hx : EvO ρ x (.string a)] [hy : EvO ρ y (.string b)] : Op1 P ρ L (.binOp .eql t x y yt) ty (.bool (decide (a = b))) :=
 ⟨yl_of_run (fun c h => (by cases h)) fun w o ho _ _ => by unfold execOp; simp [ho, hx.out, hy.out, eqGuard, binOp, Op.stringOp, ← str_eq]⟩
instance op1NeqStr {t yt : TypeId} {x y : Operand} {a b : ByteArray} [hx : EvO ρ x (.string a)] [hy : EvO ρ y (.string b)] : Op1 P ρ L (.binOp .neq t x y yt) ty (.bool (decide (a ≠ b))) :=
 ⟨yl_of_run (fun c h => (by cases h)) fun w o ho _ _ => by unfold execOp; simp [ho, hx.out, hy.out, eqGuard, binOp, Op.stringOp, str_eq]⟩
theorem run_eqSl {P : Program} {w : World} (d' : Nat) {t e : TypeId} {a : Option Addr} {n c n' c' : Nat} (ht : P.underlying t = some (.slice e)) : (Op.equalIn (d' + 1) t (.slice a n c) (.slice none n' c')).run P w = .ok a.isNone w := by
 cases a <;> simp [Op.equalIn, run_underlying ht]
theorem run_eqPt {P : Program} {w : World} (d' : Nat) {t e : TypeId} {a : Option Addr} (ht : P.underlying t = some (.pointer e)) : (Op.equalIn (d' + 1) t (.pointer a) (.pointer none)).run P w = .ok a.isNone w := by
 cases a <;> simp [Op.equalIn, run_underlying ht]
instance op1EqlNilSl {t yt e : TypeId} {x y : Operand} {n c n' c' : Nat} {a : Option Addr} [ht : Und P t (.slice e)] [hx : EvO ρ x (.slice a n c)] [hy : EvO ρ y (.slice none n' c')] : Op1 P ρ L (.binOp .eql t x y yt) ty (.bool a.isNone) :=
 ⟨yl_of_run (fun c h => (by cases h)) fun w o ho _ _ => by
  have h1 : (Op.equal t (.slice a n c) (.slice none n' c')).run P w = .ok a.isNone w := run_eqSl 9999 ht.out
  unfold execOp
  simp [ho, hx.out, hy.out, eqGuard, binOp, h1]⟩
instance op1EqlNilPtr {t yt e : TypeId} {x y : Operand} {a : Option Addr} [ht : Und P t (.pointer e)] [hx : EvO ρ x (.pointer a)] [hy : EvO ρ y (.pointer none)] : Op1 P ρ L (.binOp .eql t x y yt) ty (.bool a.isNone) :=
 ⟨yl_of_run (fun c h => (by cases h)) fun w o ho _ _ => by
  have h1 : (Op.equal t (.pointer a) (.pointer none)).run P w = .ok a.isNone w := run_eqPt 9999 ht.out
  unfold execOp
  simp [ho, hx.out, hy.out, eqGuard, binOp, h1]⟩
instance op1NeqNilPtr {t yt e : TypeId} {x y : Operand} {a : Option Addr} [ht : Und P t (.pointer e)] [hx : EvO ρ x (.pointer a)] [hy : EvO ρ y (.pointer none)] : Op1 P ρ L (.binOp .neq t x y yt) ty (.bool a.isSome) :=
 ⟨yl_of_run (fun c h => (by cases h)) fun w o ho _ _ => by
  have h1 : (Op.equal t (.pointer a) (.pointer none)).run P w = .ok a.isNone w := run_eqPt 9999 ht.out
  unfold execOp
  cases a <;> simp [ho, hx.out, hy.out, eqGuard, binOp, h1]⟩
class IfaceT (P : Program) (t : TypeId) : Prop where out : P.underlying t = some (.interface (P.methodsAt t))
instance op1NeqIface {t yt u : TypeId} {x : Operand} {v : Value} [ht : IfaceT P t] [hx : EvO ρ x (.iface u v)] : Op1 P ρ L (.binOp .neq t x (.const .nilIface) yt) ty (.bool true) :=
 ⟨yl_of_run (fun c h => (by cases h)) fun w o ho _ _ => by
  have := run_equal_held_nil (P := P) (w := w) t u v ht.out
  have hc : ev ρ (.const .nilIface) = .nilIface := rfl
  unfold execOp; simp [ho, hx.out, hc, eqGuard, binOp, this]⟩
instance op1NeqIfaceNil {t yt : TypeId} {x : Operand} [ht : IfaceT P t] [hx : EvO ρ x .nilIface] : Op1 P ρ L (.binOp .neq t x (.const .nilIface) yt) ty (.bool false) :=
 ⟨yl_of_run (fun c h => (by cases h)) fun w o ho _ _ => by
  have := run_equal_nil_nil (P := P) (w := w) t ht.out
  have hc : ev ρ (.const .nilIface) = .nilIface := rfl
  unfold execOp; simp [ho, hx.out, hc, eqGuard, binOp, this]⟩
instance op1Assert {t a : TypeId} {x : Operand} {d : TypeDesc} {v : Value} [ht : Und P a d] [hn : NotIface d] [hx : EvO ρ x (.iface a v)] : Op1 P ρ L (.typeAssert x t a false) ty v :=
 ⟨yl_of_run (fun c h => (by cases h)) fun w o ho _ _ => by
  unfold execOp
  have := hn.out
  simp only [ho, hx.out, Instr.typeAssert, Sem.run_bind, run_underlying ht.out, Result.andThen_ok]
  cases d <;> simp_all⟩
instance op1Min {x y : Operand} {ts : Array TypeId} {k : IntKind} {a b : Int} [hx : EvO ρ x (.int k a)] [hy : EvO ρ y (.int k b)] : Op1 P ρ L (.call { callee := .builtin .min, args := #[x, y], argTypes := ts }) ty (.int k (min a b)) :=
 ⟨yl_of_run (fun c h => (by cases h)) fun w o ho _ _ => by
  have e : (if b < a then b else a) = min a b := by rw [Int.min_def]; split <;> split <;> omega
  unfold execOp; simp [ho, resolve, invoke, builtin, hx.out, hy.out, Builtin.min_, Builtin.min2, e]⟩
class EqA (P : Program) (t : TypeId) (a b : List Value) (r : outParam Bool) : Prop where
 guard : P.eqGuardType P.depth t = false
 out : ∀ w, (Op.equalIn 10000 t (.agg a.toArray) (.agg b.toArray)).run P w = .ok r w
instance op1EqlAgg {t yt : TypeId} {x y : Operand} {a b : List Value} {r : Bool} [hx : EvO ρ x (.agg a.toArray)] [hy : EvO ρ y (.agg b.toArray)] [h : EqA P t a b r] : Op1 P ρ L (.binOp .eql t x y yt) ty (.bool r) :=
 ⟨yl_of_run (fun c h => (by cases h)) fun w o ho _ _ => by
  unfold execOp
  simp only [ho, hx.out, hy.out, Sem.run_bind, run_eqGuard_agg w .eql t x y a.toArray b.toArray h.guard, Result.andThen_ok, run_eql_struct, h.out, Sem.run_pure]⟩
instance op1NeqAgg {t yt : TypeId} {x y : Operand} {a b : List Value} {r : Bool} [hx : EvO ρ x (.agg a.toArray)] [hy : EvO ρ y (.agg b.toArray)] [h : EqA P t a b r] : Op1 P ρ L (.binOp .neq t x y yt) ty (.bool (!r)) :=
 ⟨yl_of_run (fun c h => (by cases h)) fun w o ho _ _ => by
  unfold execOp
  simp only [ho, hx.out, hy.out, Sem.run_bind, run_eqGuard_agg w .neq t x y a.toArray b.toArray h.guard, Result.andThen_ok, run_neq_struct, h.out, Sem.run_pure]⟩
def findI (es : List MapEntry) (j : Int) : Option Value := match es with
 | [] => none
 | e :: es => match e.key with
  | .int _ i => if j = i then some e.val else findI es j
  | _ => none
def keysI (k : IntKind) (es : List MapEntry) : Prop := ∀ e ∈ es, ∃ i, e.key = .int k i
theorem run_checkInt {P : Program} {w : World} (d' : Nat) (b : Bool) {kt : TypeId} {k k' : IntKind} {j : Int} (h : P.underlying kt = some (.int k')) : (Instr.checkKey b (d' + 1) kt (.int k j)).run P w = .ok () w := by
 simp [Instr.checkKey, run_underlying h]
theorem findNow_int {k k' : IntKind} {j : Int} : ∀ (es : List MapEntry) (i : Nat), keysI k es → ∃ p, Instr.findNow (.int k') (.int k j) es i = some p ∧ p.map (·.2) = findI es j
 | [], i, _ => ⟨none, rfl, rfl⟩
 | e :: es, i, h => by
  obtain ⟨m, hm⟩ := h e (List.mem_cons_self ..)
  obtain ⟨p, h1, h2⟩ := findNow_int (k' := k') (j := j) es (i + 1) (fun e he => h e (List.mem_cons_of_mem _ he))
  by_cases hjm : j = m
  ·refine ⟨some (i, e.val), ?_, ?_⟩
   ·simp [Instr.findNow, hm, Instr.sameNow, hjm]
   ·simp [findI, hm, hjm]
  ·refine ⟨p, ?_, ?_⟩
   ·have hb : (j == m) = false := by simpa using hjm
    simp only [Instr.findNow, hm, Instr.sameNow, if_true, hb, h1]
   ·simp only [findI, hm, if_neg hjm, h2]
theorem yl_lookupOk {t kt et : TypeId} {x y : Operand} {k k' : IntKind} {j : Int} {m c : Nat} {es : List MapEntry} {z : Value} (ht : Und P t (.map kt et)) (hk : Und P kt (.int k')) (hz : Zer P et z) (hx : EvO ρ x (.map (some m))) (hy : EvO ρ y (.int k j)) (hin : InC L m (.map es.toArray c)) (hes : keysI k es) :
  Yl P ρ L (.lookup t x y true) ty (match findI es j with | some v => .tuple #[v, .bool true] | none => .tuple #[z, .bool false]) :=
 yl_of_run (fun c h => (by cases h)) fun w o ho _ hp => by
  obtain ⟨p, h1, h2⟩ := findNow_int (k' := k') (j := j) es 0 hes
  have hob : (getObj m).run P w = .ok (.map es.toArray c) w := by simp [getObj, Sem.run, hp _ _ hin.out]
  have hck : ∀ b, (Instr.checkKey b 10000 kt (.int k j)).run P w = .ok () w := fun b => run_checkInt 9999 b hk.out
  unfold execOp
  simp only [ho, hx.out, hy.out, Instr.lookup, Sem.run_bind, run_underlying ht.out, Result.andThen_ok, hob, Sem.run_pure, hck, Instr.findKey, run_underlying hk.out, h1]
  rw [← h2]
  cases p with
  | none => simp [hz.out]
  | some p => obtain ⟨i, v⟩ := p; simp
theorem yl_lookup {t kt et : TypeId} {x y : Operand} {k k' : IntKind} {j : Int} {m c : Nat} {es : List MapEntry} {z : Value} (ht : Und P t (.map kt et)) (hk : Und P kt (.int k')) (hz : Zer P et z) (hx : EvO ρ x (.map (some m))) (hy : EvO ρ y (.int k j)) (hin : InC L m (.map es.toArray c)) (hes : keysI k es) :
  Yl P ρ L (.lookup t x y false) ty ((findI es j).getD z) :=
 yl_of_run (fun c h => (by cases h)) fun w o ho _ hp => by
  obtain ⟨p, h1, h2⟩ := findNow_int (k' := k') (j := j) es 0 hes
  have hob : (getObj m).run P w = .ok (.map es.toArray c) w := by simp [getObj, Sem.run, hp _ _ hin.out]
  have hck : ∀ b, (Instr.checkKey b 10000 kt (.int k j)).run P w = .ok () w := fun b => run_checkInt 9999 b hk.out
  unfold execOp
  simp only [ho, hx.out, hy.out, Instr.lookup, Sem.run_bind, run_underlying ht.out, Result.andThen_ok, hob, Sem.run_pure, hck, Instr.findKey, run_underlying hk.out, h1]
  rw [← h2]
  cases p with
  | none => simp [hz.out]
  | some p => obtain ⟨i, v⟩ := p; simp
theorem ef_insertNew {t kt et : TypeId} {x y z : Operand} {k k' : IntKind} {j : Int} {m c : Nat} {es : List MapEntry} {L' : Chunk} {u : Value} (ht : Und P t (.map kt et)) (hk : Und P kt (.int k')) (hx : EvO ρ x (.map (some m))) (hy : EvO ρ y (.int k j)) (hzv : EvO ρ z u) (hin : InC L m (.map es.toArray c)) (hes : keysI k es)
  (hno : findI es j = none) (hu : UpdC L m (.map (es ++ [MapEntry.mk (.int k j) u c]).toArray (c + 1)) L') : OpU P ρ L (.insert t x y z) ty L' :=
 ⟨fun c h => (by cases h), fun w0 w o ho hty hst => by
  obtain ⟨p, h1, h2⟩ := findNow_int (k' := k') (j := j) es 0 hes
  rw [hno] at h2
  have hp : p = none := by cases p with
   | none => rfl
   | some p => simp at h2
  subst hp
  have hob : (getObj m).run P w = .ok (.map es.toArray c) w := by simp [getObj, Sem.run, hst.pn _ _ hin.out]
  have hck : ∀ b, (Instr.checkKey b 10000 kt (.int k j)).run P w = .ok () w := fun b => run_checkInt 9999 b hk.out
  refine ⟨w.putObj m (.map (es ++ [MapEntry.mk (.int k j) u c]).toArray (c + 1)), ?_, hst.put hin hu⟩
  unfold execOp
  simp only [ho, hx.out, hy.out, hzv.out, Instr.mapUpdate, Sem.run_bind, run_underlying ht.out, Result.andThen_ok, hob, Sem.run_pure, hck, Instr.findKey, run_underlying hk.out, h1]
  simp [setObj, Sem.run, World.putObj, hst.pn _ _ hin.out]⟩
theorem ef_panic {x : Operand} {t : TypeId} {u : Value} (hx : EvO ρ x (.iface t u)) : Ef P ρ L (.panic x) ty (fun _ _ => False) (fun ch L' => ch = [{ v := .iface t u, recovered := false }] ∧ L' = L) :=
 ⟨fun c h => (by cases h), fun w0 w rd a next Q o ho hty ha hst hn hp => by
  have hr : (execOp (ev ρ) o).run P w = .halt (.panic (.iface t u)) w := by
   unfold execOp
   simp [ho, hx.out, Instr.panic, goPanic, Sem.run, Result.andThen]
  rw [hr]
  exact hp _ _ _ hst ⟨rfl, rfl⟩⟩
theorem OW.panic {x : Operand} {t : TypeId} {u : Value} [hx : EvO ρ x (.iface t u)] (h : K (.panic [{ v := .iface t u, recovered := false }]) ρ ds L) : OW P w0 rd n ops K (⟨dst, .panic x, ty, pos, after, none⟩ :: l) ρ ds L :=
 OW.eff (ef_panic hx) (fun _ _ h => h.elim) (fun ch L' ⟨h1, h2⟩ => by subst h1 h2; exact h)
class ResV (P : Program) (r : ResultVar) (ρ : Env) (L : Chunk) (v : outParam Value) : Prop where
 out : match r with
  | .tmp t => ρ t = v
  | .cell a t => ∃ ad, ρ a = .pointer (some ad) ∧ ∀ w, Pn w L → (loadVar t ad).run P w = .ok v w
instance resTmp {t : Tmp} [h : Ev ρ t v] : ResV P (.tmp t) ρ L v := ⟨h.out⟩
instance resCell {t : Tmp} {b k : Nat} {c : Array Value} {e : TypeId} {fr : Nat × Nat} {ty : TypeId} [h : Ev ρ t (.pointer (some ⟨b, k, none⟩))] [ha : Agg P ty false] [hb : InC L b (.cells c e fr)] [hk : Nth c k v] : ResV P (.cell t ty) ρ L v := ⟨_, h.out, fun w hp => by
 have := run_load (P := P) (hp _ _ hb.out) hk.out
 simp only [loadVar, ha.out, Sem.run_bind, Result.andThen_ok, Bool.false_eq_true, if_false, this]⟩
instance resCellAgg {t : Tmp} {b k m : Nat} {c l' : List Value} {e : TypeId} {fr : Nat × Nat} {ty : TypeId} [h : Ev ρ t (.pointer (some ⟨b, k, none⟩))] [ha : Agg P ty true] [hz : Siz P ty m] [hb : InC L b (.cells c.toArray e fr)] [hk : CutL c k m l'] : ResV P (.cell t ty) ρ L (.agg l'.toArray) := ⟨_, h.out, fun w hp => by
 have h1 := run_loadCellsFrom (P := P) (hp _ _ hb.out) k m 0 #[] (by simpa using hk.out.1)
 have h2 : (#[] : Array Value) ++ c.toArray.extract (k + 0) (k + 0 + m) = l'.toArray := by
  apply Array.ext'
  rw [← hk.out.2]
  simp [List.extract_eq_take_drop]
 rw [h2] at h1
 simp only [Sem.run_bind, Sem.run_pure, Result.andThen_ok, loadVar, ha.out, if_true, hz.out, loadCells, h1]⟩
theorem ResV.run {r : ResultVar} [h : ResV P r ρ L v] {tmps : Array Value} {w : World} (hg : ∀ t, tmps.getD t undef = ρ t) (hp : Pn w L) :
  (match r with | .tmp t => (pure (tmps.getD t undef) : Sem Value) | .cell a t => (do loadVar t (← asAddr (tmps.getD a undef)) : Sem Value)).run P w = .ok v w := by
 have := h.out
 cases r with
 | tmp t => simp only at this; simp only [Sem.run_pure]; rw [hg, this]
 | cell a t =>
  obtain ⟨ad, h1, h2⟩ := this
  simp only [hg, h1, asAddr, Sem.run_bind, Sem.run_pure, Result.andThen_ok, h2 w hp]
variable {fn : Func} {r1 r2 r3 : ResultVar} {v1 v2 v3 : Value}
theorem mapM1 {f : ResultVar → Sem Value} {w : World} (h1 : (f r1).run P w = .ok v1 w) : (#[r1].mapM f).run P w = .ok #[v1] w := by
 rw [show #[r1].mapM f = (do let l ← [r1].mapM f; pure l.toArray) from by simp]
 simp [Sem.run_bind, h1]
theorem mapM2 {f : ResultVar → Sem Value} {w : World} (h1 : (f r1).run P w = .ok v1 w) (h2 : (f r2).run P w = .ok v2 w) : (#[r1, r2].mapM f).run P w = .ok #[v1, v2] w := by
 rw [show #[r1, r2].mapM f = (do let l ← [r1, r2].mapM f; pure l.toArray) from by simp]
 simp [Sem.run_bind, h1, h2]
theorem Res.of1 (h : fn.results = #[r1]) [h1 : ResV P r1 ρ L v1] : Res P fn ρ L v1 := fun tmps w hg hp => by
 simp only [results, h, Sem.run_bind]
 rw [mapM1 (P := P) (h1.run hg hp)]
 simp
theorem Res.of2 (h : fn.results = #[r1, r2]) [h1 : ResV P r1 ρ L v1] [h2 : ResV P r2 ρ L v2] : Res P fn ρ L (.tuple #[v1, v2]) := fun tmps w hg hp => by
 simp only [results, h, Sem.run_bind]
 rw [mapM2 (P := P) (h1.run hg hp) (h2.run hg hp)]
 simp
class CatO (a b : List Oper) (c : outParam (List Oper)) : Prop where out : a ++ b = c
instance catONil {b : List Oper} : CatO [] b b := ⟨rfl⟩
instance catOCons {x : Oper} {a b c : List Oper} [h : CatO a b c] : CatO (x :: a) b (x :: c) := ⟨by rw [List.cons_append, h.out]⟩
class FlatO (l : List Oper) (l' : outParam (List Oper)) : Prop where out : l = l'
instance (priority := low) flatSame {l : List Oper} : FlatO l l := ⟨rfl⟩
instance flatApp {a b a' b' c : List Oper} [h1 : FlatO a a'] [h2 : FlatO b b'] [h3 : CatO a' b' c] : FlatO (List.append a b) c := ⟨by rw [h1.out, h2.out]; exact h3.out⟩
instance flatHApp {a b a' b' c : List Oper} [h1 : FlatO a a'] [h2 : FlatO b b'] [h3 : CatO a' b' c] : FlatO (a ++ b) c := ⟨by rw [h1.out, h2.out]; exact h3.out⟩
theorem CW.regionF {id : Nat} {l' : List Oper} (hok : l.all (dstOk n) = true) [hf : FlatO l l'] (h : OW P w0 rd n l'.toArray K l' ρ ds L) : CW P w0 rd n (.region id l.toArray false) K ρ ds L :=
 CW.region hok (by rw [hf.out]; exact h)
class NthOp (l : List Oper) (i : Nat) (o : outParam Oper) : Prop where out : nthOp l i = some o
instance nthOpHere {l : List Oper} {o : Oper} : NthOp (o :: l) 0 o := ⟨rfl⟩
instance nthOpThere {l : List Oper} {x o : Oper} {i : Nat} [h : NthOp l i o] : NthOp (x :: l) (i + 1) o := ⟨h.out⟩
class Pick (l : List Oper) (is : List Nat) (l' : outParam (List Oper)) : Prop where out : pickOps l is = l'
instance pickNil {l : List Oper} : Pick l [] [] := ⟨rfl⟩
instance pickCons {l l' : List Oper} {i : Nat} {is : List Nat} {o : Oper} [h1 : NthOp l i o] [h2 : Pick l is l'] : Pick l (i :: is) (o :: l') := ⟨by simp only [pickOps, h1.out, h2.out]⟩
class StdC (K : Post) : Prop where out : Steady K
instance stdThen {next : Env → List Deferred → Chunk → Prop} [h : StdC K] : StdC (thenK next K) := ⟨h.out⟩
instance stdBlock {id : Nat} [h : StdC K] : StdC (blockK id K) := ⟨h.out⟩
instance stdBody {fn : Func} {Φ : Value → Chunk → Prop} {Ψ : List PanicEntry → Chunk → Prop} : StdC (bodyK P fn Φ Ψ) := ⟨bodyK.steady⟩
instance stdRound {lp : Nat} {rec : LoopState → Option Code → Obj} {Φ : Value → Chunk → Prop} : StdC (roundK lp rec Φ) := ⟨roundK.steady⟩
theorem CW.drawsP {id : Nat} (is : List Nat) (hm : P.follows .mixedOrders = true) (hok : regionOk n l.toArray is = true) [hK : StdC K] {l' : List Oper} [hp : Pick l is l'] (h : RW P w0 rd n l.toArray K l' L ρ ds L) : CW P w0 rd n (.region id l.toArray true) K ρ ds L :=
 CW.draws is hm hok hK.out L (fun _ h => h) (hp.out ▸ h)
class DropC (L : Chunk) (b : Nat) (R : outParam Chunk) : Prop where out : ∀ p ∈ R, p ∈ L
instance (priority := high) dropHere {L : Chunk} {b : Nat} {o : Obj} : DropC ((b, o) :: L) b L := ⟨fun _ h => List.mem_cons_of_mem _ h⟩
instance dropThere {L R : Chunk} {b : Nat} {p : Nat × Obj} [h : DropC L b R] : DropC (p :: L) b (p :: R) := ⟨fun q hq => by
 rcases List.mem_cons.1 hq with rfl | hq
 ·exact List.mem_cons_self ..
 ·exact List.mem_cons_of_mem _ (h.out q hq)⟩
instance dropLeft {A B R : Chunk} {b : Nat} [h : DropC A b R] : DropC (A ++ B) b (R ++ B) := ⟨fun q hq => by
 rcases List.mem_append.1 hq with hq | hq
 ·exact List.mem_append_left _ (h.out q hq)
 ·exact List.mem_append_right _ hq⟩
instance dropRight {A B R : Chunk} {b : Nat} [h : DropC B b R] : DropC (A ++ B) b (A ++ R) := ⟨fun q hq => by
 rcases List.mem_append.1 hq with hq | hq
 ·exact List.mem_append_left _ hq
 ·exact List.mem_append_right _ (h.out q hq)⟩
theorem CW.drawsS {id : Nat} (t : Tmp) (is : List Nat) (hm : P.follows .mixedOrders = true) (hok : regionOk n l.toArray is = true) [hK : StdC K] {b k : Nat} {R : Chunk} [hb : Ev ρ t (.pointer (some ⟨b, k, none⟩))] [hd : DropC L b R]
  {l' : List Oper} [hp : Pick l is l'] (h : RW P w0 rd n l.toArray K l' R ρ ds L) : CW P w0 rd n (.region id l.toArray true) K ρ ds L := CW.draws is hm hok hK.out R hd.out (hp.out ▸ h)
end
end Go.Pw

namespace Go.Pw

/-- What is known of slots: a truth value, or that they hold nothing. -/
abbrev Kn := List (Nat × Option Bool)
def bval : Option Bool → Value
  | some b => .bool b
  | none => undef
def kb : Kn → Nat → Option (Option Bool)
  | [], _ => none
  | (d, b) :: kn, t => match Nat.beq t d with
    | true => some b
    | false => kb kn t
def opB (kn : Kn) : Operand → Option Bool
  | .tmp t => match kb kn t with
    | some (some b) => some b
    | _ => none
  | .const (.bool b) => some b
  | _ => none
def skipStep (ops : List Oper) (kn : Kn) (o : Oper) : Option Kn :=
  match o.dst with
  | none => none
  | some d =>
    match o.guard with
    | some (j, w) => match (nthOp ops j).bind (·.dst) with
      | some t => match kb kn t with
        | some (some b) => if b == w then none else some ((d, none) :: kn)
        | some none => some ((d, none) :: kn)
        | none => none
      | none => none
    | none => match o.op with
      | .move x => (opB kn x).map fun b => (d, some b) :: kn
      | .assign x => (opB kn x).map fun b => (d, some b) :: kn
      | .pick c a b => match opB kn c with
        | some true => (opB kn a).map fun b => (d, some b) :: kn
        | some false => (opB kn b).map fun b => (d, some b) :: kn
        | none => none
      | _ => none
def skipRun (ops : List Oper) : Kn → List Oper → Option Kn
  | kn, [] => some kn
  | kn, o :: l => match skipStep ops kn o with
    | some kn' => skipRun ops kn' l
    | none => none

def KnOk (kn : Kn) (ρ : Env) : Prop := ∀ t b, kb kn t = some b → ρ t = bval b
theorem KnOk.put {kn : Kn} {ρ : Env} (h : KnOk kn ρ) (d : Nat) (b : Option Bool) : KnOk ((d, b) :: kn) (upd ρ d (bval b)) := fun t b' hb => by
  simp only [kb] at hb
  by_cases e : t = d
  · subst e
    rw [Nat.beq_refl] at hb
    cases hb; exact upd_same ..
  · have e' : Nat.beq t d = false := by
      cases h' : Nat.beq t d with
      | false => rfl
      | true => exact absurd (Nat.eq_of_beq_eq_true h') e
    rw [e'] at hb
    rw [upd_ne ρ _ e]; exact h t b' hb
theorem KnOk.op {kn : Kn} {ρ : Env} (h : KnOk kn ρ) {x : Operand} {b : Bool} (hx : opB kn x = some b) : EvO ρ x (.bool b) := ⟨by
  cases x with
  | tmp t =>
    simp only [opB] at hx
    split at hx
    · rename_i b' hb; cases hx; exact h t _ hb
    · cases hx
  | const v =>
    cases v <;> simp only [opB] at hx <;> first | (cases hx; rfl) | cases hx
  | global g => cases hx
  | func f => cases hx⟩

/-- Which slots these lie between. -/
def span (d : Nat) : List Oper → Nat × Nat
  | [] => (d, d)
  | o :: l => match o.dst with
    | some t => (Nat.min t (span d l).1, Nat.max t (span d l).2)
    | none => span d l

/-- All that is asked. -/
def skipAll (ops : List Oper) (d : Nat) (b : Bool) (l : List Oper) : Option (Nat × Bool) :=
  match skipRun ops [(d, some b)] l with
  | some ((d', some b') :: _) => some (d', b')
  | _ => none

def mask (s : Nat × Nat) (X ρ : Env) : Env := fun t => if s.1 ≤ t ∧ t ≤ s.2 then X t else ρ t
class OutS (s : Nat × Nat) (t : Nat) : Prop where out : ¬ (s.1 ≤ t ∧ t ≤ s.2)
instance outLow {a b t : Nat} [h : IsF (Nat.ble a t)] : OutS (a, b) t := ⟨fun h' => by have := h.out; rw [Nat.ble_eq_true_of_le h'.1] at this; cases this⟩
instance outHigh {a b t : Nat} [h : IsF (Nat.ble t b)] : OutS (a, b) t := ⟨fun h' => by have := h.out; rw [Nat.ble_eq_true_of_le h'.2] at this; cases this⟩
instance evMask {s : Nat × Nat} {X ρ : Env} {t : Nat} {v : Value} [h : OutS s t] [hv : Ev ρ t v] : Ev (mask s X ρ) t v := ⟨by unfold mask; rw [if_neg h.out]; exact hv.out⟩

section
variable {P : Program} {w0 : World} {rd : Option Nat} {n : Nat} {K : Post} {ρ : Env} {ds : List Deferred} {L R : Chunk} {ops : List Oper}

theorem yl_known {ρ : Env} {kn : Kn} (hk : KnOk kn ρ) {j t : Nat} {w : Bool} (ht : (nthOp ops j).bind (·.dst) = some t) (hb : kb kn t = some none ∨ ∃ b, kb kn t = some (some b) ∧ (b == w) = false) : (yl ops.toArray ρ j == some w) = false := by
  rw [nthOp_eq] at ht
  unfold yl
  simp only [List.getElem?_toArray, ht]
  rcases hb with hb | ⟨b, hb, hw⟩
  · rw [hk t _ hb]; simp [bval, undef]
  · rw [hk t _ hb]; simp only [bval]; simpa using hw

theorem skipStep_cases {kn kn' : Kn} {o : Oper} (h : skipStep ops kn o = some kn') : ∃ d b, o.dst = some d ∧ kn' = (d, b) :: kn ∧
    ((∃ g, o.guard = some g ∧ b = none ∧ ∀ ρ, KnOk kn ρ → (yl ops.toArray ρ g.1 == some g.2) = false) ∨
     (o.guard = none ∧ isEff o = false ∧ ∀ ρ (P : Program) (L : Chunk), KnOk kn ρ → Yl P ρ L o.op o.type (bval b))) := by
  unfold skipStep at h
  cases hd : o.dst with
  | none => rw [hd] at h; cases h
  | some d =>
    rw [hd] at h
    cases hg : o.guard with
    | some g =>
      obtain ⟨j, w⟩ := g
      simp only [hg] at h
      cases ht : (nthOp ops j).bind (·.dst) with
      | none => rw [ht] at h; cases h
      | some t =>
        rw [ht] at h
        simp only at h
        cases hkb : kb kn t with
        | none => rw [hkb] at h; cases h
        | some ob =>
          rw [hkb] at h
          cases ob with
          | none => cases h; exact ⟨d, none, rfl, rfl, .inl ⟨_, rfl, rfl, fun ρ hk => yl_known hk ht (.inl hkb)⟩⟩
          | some b =>
            simp only at h
            cases hbw : (b == w) with
            | true => rw [hbw] at h; cases h
            | false => rw [hbw] at h; cases h; exact ⟨d, none, rfl, rfl, .inl ⟨_, rfl, rfl, fun ρ hk => yl_known hk ht (.inr ⟨b, hkb, hbw⟩)⟩⟩
    | none =>
      simp only [hg] at h
      cases ho : o.op <;> simp only [ho] at h <;> try cases h
      case move x =>
        cases hx : opB kn x with
        | none => rw [hx] at h; cases h
        | some b => rw [hx] at h; cases h; exact ⟨d, some b, rfl, rfl, .inr ⟨rfl, by unfold isEff; rw [ho], fun ρ P L hk => by have := hk.op hx; exact (op1Move (x := x)).yl⟩⟩
      case assign x =>
        cases hx : opB kn x with
        | none => rw [hx] at h; cases h
        | some b => rw [hx] at h; cases h; exact ⟨d, some b, rfl, rfl, .inr ⟨rfl, by unfold isEff; rw [ho], fun ρ P L hk => by have := hk.op hx; exact (op1Assign (x := x)).yl⟩⟩
      case pick c x y =>
        cases hc : opB kn c with
        | none => rw [hc] at h; cases h
        | some b0 =>
          rw [hc] at h
          cases b0 with
          | true =>
            cases hx : opB kn x with
            | none => rw [hx] at h; cases h
            | some b =>
              rw [hx] at h; cases h
              refine ⟨d, some b, rfl, rfl, .inr ⟨rfl, by unfold isEff; rw [ho], fun ρ P L hk => ⟨fun c h => (by cases h), fun w o' ho' _ _ => ?_⟩⟩⟩
              have h1 := (hk.op hc).out
              have h2 := (hk.op hx).out
              unfold execOp; simp [ho', h1, h2, bval, asBool]
          | false =>
            cases hx : opB kn y with
            | none => rw [hx] at h; cases h
            | some b =>
              rw [hx] at h; cases h
              refine ⟨d, some b, rfl, rfl, .inr ⟨rfl, by unfold isEff; rw [ho], fun ρ P L hk => ⟨fun c h => (by cases h), fun w o' ho' _ _ => ?_⟩⟩⟩
              have h1 := (hk.op hc).out
              have h2 := (hk.op hx).out
              unfold execOp; simp [ho', h1, h2, bval, asBool]

theorem OW.skipRun : ∀ (l : List Oper) (kn kn' : Kn) (ρ : Env), KnOk kn ρ → skipRun ops kn l = some kn' →
    (∀ ρ', KnOk kn' ρ' → (∀ t, (∀ o ∈ l, o.dst ≠ some t) → ρ' t = ρ t) → K .normal ρ' ds L) → OW P w0 rd n ops.toArray K l ρ ds L
  | [], kn, kn', ρ, hk, h, next => by cases h; exact OW.nil (next ρ hk fun _ _ => rfl)
  | o :: l, kn, kn', ρ, hk, h, next => by
    simp only [Go.Pw.skipRun] at h
    cases hs : skipStep ops kn o with
    | none => rw [hs] at h; cases h
    | some kn1 =>
      rw [hs] at h
      obtain ⟨d, b, hd, rfl, hc⟩ := skipStep_cases hs
      have hk1 := hk.put d b
      have rest := OW.skipRun l _ kn' (upd ρ d (bval b)) hk1 h fun ρ' h1 h2 => next ρ' h1 fun t ht => by
        rw [h2 t fun o ho => ht o (List.mem_cons_of_mem _ ho)]
        exact upd_ne ρ _ fun e => ht o (List.mem_cons_self ..) (by rw [hd, e])
      obtain ⟨dst, op, ty, pos, after, guard⟩ := o
      simp only at hd hc
      subst hd
      rcases hc with ⟨g, hg, rfl, hy⟩ | ⟨hg, he, hy⟩
      · subst hg
        exact OW.guarded (hy ρ hk) (fun e => by cases e) (fun _ => rest)
      · subst hg
        exact OW.val (hy ρ P L hk) rest
theorem RW.skipRun : ∀ (l : List Oper) (kn kn' : Kn) (ρ : Env), KnOk kn ρ → skipRun ops kn l = some kn' →
    (∀ ρ', KnOk kn' ρ' → (∀ t, (∀ o ∈ l, o.dst ≠ some t) → ρ' t = ρ t) → K .normal ρ' ds L) → RW P w0 rd n ops.toArray K l R ρ ds L
  | [], kn, kn', ρ, hk, h, next => by cases h; exact RW.nil (next ρ hk fun _ _ => rfl)
  | o :: l, kn, kn', ρ, hk, h, next => by
    simp only [Go.Pw.skipRun] at h
    cases hs : skipStep ops kn o with
    | none => rw [hs] at h; cases h
    | some kn1 =>
      rw [hs] at h
      obtain ⟨d, b, hd, rfl, hc⟩ := skipStep_cases hs
      have hk1 := hk.put d b
      have rest := RW.skipRun l _ kn' (upd ρ d (bval b)) hk1 h fun ρ' h1 h2 => next ρ' h1 fun t ht => by
        rw [h2 t fun o ho => ht o (List.mem_cons_of_mem _ ho)]
        exact upd_ne ρ _ fun e => ht o (List.mem_cons_self ..) (by rw [hd, e])
      obtain ⟨dst, op, ty, pos, after, guard⟩ := o
      simp only at hd hc
      subst hd
      rcases hc with ⟨g, hg, rfl, hy⟩ | ⟨hg, he, hy⟩
      · subst hg
        exact RW.skipG (hy ρ hk) rest
      · subst hg
        exact RW.val he (hy ρ P R hk) rest

theorem span_le (d : Nat) (l : List Oper) : (span d l).1 ≤ d ∧ d ≤ (span d l).2 ∧ ∀ o ∈ l, ∀ t, o.dst = some t → (span d l).1 ≤ t ∧ t ≤ (span d l).2 := by
  induction l with
  | nil => exact ⟨Nat.le_refl _, Nat.le_refl _, fun _ h => by cases h⟩
  | cons o l ih =>
    obtain ⟨h1, h2, h3⟩ := ih
    cases hd : o.dst with
    | none =>
      simp only [span, hd]
      exact ⟨h1, h2, fun o' ho' t ht => by
        rcases List.mem_cons.1 ho' with rfl | ho'
        · rw [hd] at ht; cases ht
        · exact h3 o' ho' t ht⟩
    | some u =>
      simp only [span, hd]
      refine ⟨Nat.le_trans (Nat.min_le_right _ _) h1, Nat.le_trans h2 (Nat.le_max_right _ _), fun o' ho' t ht => ?_⟩
      rcases List.mem_cons.1 ho' with rfl | ho'
      · rw [hd] at ht
        obtain rfl : u = t := Option.some.inj ht
        exact ⟨Nat.min_le_left _ _, Nat.le_max_left _ _⟩
      · have := h3 o' ho' t ht
        exact ⟨Nat.le_trans (Nat.min_le_right _ _) this.1, Nat.le_trans this.2 (Nat.le_max_right _ _)⟩
theorem skipRun_last {o : Oper} : ∀ (a : List Oper) (kn kn' : Kn), skipRun ops kn (a ++ [o]) = some kn' → ∃ kn1, skipStep ops kn1 o = some kn' := by
  intro a
  induction a with
  | nil =>
    intro kn kn' h
    refine ⟨kn, ?_⟩
    simp only [List.nil_append, skipRun] at h
    cases hs : skipStep ops kn o with
    | none => rw [hs] at h; cases h
    | some k => rw [hs] at h; exact h
  | cons x a ih =>
    intro kn kn' h
    simp only [List.cons_append, skipRun] at h
    cases hs : skipStep ops kn x with
    | none => rw [hs] at h; cases h
    | some k => rw [hs] at h; exact ih k kn' h

theorem skip_env {l : List Oper} {d d' : Nat} {b b' : Bool} {kn' : Kn} {ρ ρ' : Env} (hl : l ≠ []) (h : skipRun ops [(d, some b)] l = some ((d', some b') :: kn')) (h1 : KnOk ((d', some b') :: kn') ρ') (h2 : ∀ t, (∀ o ∈ l, o.dst ≠ some t) → ρ' t = upd ρ d (.bool b) t) :
    ρ' = upd (mask (span d l.dropLast) ρ' ρ) d' (.bool b') := by
  funext t
  obtain ⟨s1, s2, s3⟩ := span_le d l.dropLast
  unfold upd mask
  split
  · rename_i e
    rw [e]; exact h1 d' (some b') (by simp [kb])
  · rename_i e
    split
    · rfl
    · rename_i hout
      rw [h2 t fun o ho hd => ?_]
      · exact upd_ne ρ _ fun e2 => hout (by omega)
      · have e3 := List.dropLast_concat_getLast hl
        have ho' := ho
        rw [← e3] at ho'
        rcases List.mem_append.1 ho' with h3 | h3
        · exact hout (s3 o h3 t hd)
        · obtain rfl := List.mem_singleton.1 h3
          rw [← e3] at h
          obtain ⟨kn1, hs⟩ := skipRun_last _ _ _ h
          obtain ⟨d2, b2, hd2, hk2, _⟩ := skipStep_cases hs
          rw [hd2] at hd
          simp only [List.cons.injEq, Prod.mk.injEq] at hk2
          exact e ((Option.some.inj hd).symm.trans hk2.1.1.symm)

/-- The span, in numbers. -/
class MinN (a b : Nat) (c : outParam Nat) : Prop where out : Nat.min a b = c
instance minLeft {a b : Nat} [h : IsT (Nat.ble a b)] : MinN a b a := ⟨Nat.min_eq_left (Nat.le_of_ble_eq_true h.out)⟩
instance (priority := low) minRight {a b : Nat} [h : IsT (Nat.ble b a)] : MinN a b b := ⟨Nat.min_eq_right (Nat.le_of_ble_eq_true h.out)⟩
class MaxN (a b : Nat) (c : outParam Nat) : Prop where out : Nat.max a b = c
instance maxRight {a b : Nat} [h : IsT (Nat.ble a b)] : MaxN a b b := ⟨Nat.max_eq_right (Nat.le_of_ble_eq_true h.out)⟩
instance (priority := low) maxLeft {a b : Nat} [h : IsT (Nat.ble b a)] : MaxN a b a := ⟨Nat.max_eq_left (Nat.le_of_ble_eq_true h.out)⟩
class SpanD (d : Nat) (l : List Oper) (a b : outParam Nat) : Prop where out : span d l.dropLast = (a, b)
instance spanOne {d : Nat} {o : Oper} : SpanD d [o] d d := ⟨rfl⟩
instance spanCons {d t a b a' b' : Nat} {op : Op} {ty : TypeId} {pos : String} {after : Array Edge} {g : Option (Nat × Bool)} {o : Oper} {l : List Oper} [h : SpanD d (o :: l) a b] [h1 : MinN t a a'] [h2 : MaxN t b b'] : SpanD d (⟨some t, op, ty, pos, after, g⟩ :: o :: l) a' b' := ⟨by
  have e : (⟨some t, op, ty, pos, after, g⟩ :: o :: l : List Oper).dropLast = ⟨some t, op, ty, pos, after, g⟩ :: (o :: l).dropLast := rfl
  rw [e]
  simp only [span, h.out, h1.out, h2.out]⟩

/-- The rest of the chain. -/
theorem OW.skip {l : List Oper} {d d' s1 s2 : Nat} {b b' : Bool} (h : skipAll ops d b l = some (d', b')) (hl : l ≠ []) [hs : SpanD d l s1 s2] (next : ∀ X, K .normal (upd (mask (s1, s2) X ρ) d' (.bool b')) ds L) : OW P w0 rd n ops.toArray K l (upd ρ d (.bool b)) ds L := by
  unfold skipAll at h
  split at h
  · rename_i d1 b1 kn' hr
    cases h
    refine OW.skipRun l _ _ _ (fun t b0 hb => ?_) hr fun ρ' h1 h2 => ?_
    · have h0 : KnOk [] ρ := fun t b h => by cases h
      exact h0.put d (some b) t b0 hb
    · rw [skip_env hl hr h1 h2, hs.out]; exact next ρ'
  · cases h
theorem RW.skip {l : List Oper} {d d' s1 s2 : Nat} {b b' : Bool} (h : skipAll ops d b l = some (d', b')) (hl : l ≠ []) [hs : SpanD d l s1 s2] (next : ∀ X, K .normal (upd (mask (s1, s2) X ρ) d' (.bool b')) ds L) : RW P w0 rd n ops.toArray K l R (upd ρ d (.bool b)) ds L := by
  unfold skipAll at h
  split at h
  · rename_i d1 b1 kn' hr
    cases h
    refine RW.skipRun l _ _ _ (fun t b0 hb => ?_) hr fun ρ' h1 h2 => ?_
    · have h0 : KnOk [] ρ := fun t b h => by cases h
      exact h0.put d (some b) t b0 hb
    · rw [skip_env hl hr h1 h2, hs.out]; exact next ρ'
  · cases h
end
end Go.Pw

namespace Go.Pw
section scope
variable {P : Program} {b : Frame} {a : Act} {k : List Item} {cs : List Frame} {w : World}
theorem stepR_scope {c : Code} : step P (lone (b.atR a (.code (.scope c) :: k)) cs w) = .next (lone (b.atR a (.code c :: .inScope c :: k)) cs w) :=
 step_lone_go (by simp [stepG, stepG.exec, Frame.atR])
theorem stepR_inScope {c : Code} : step P (lone (b.atR a (.inScope c :: k)) cs w) = .next (lone (b.atR a k) cs w) :=
 step_lone_go (by simp [stepG, stepG.exec, Frame.atR])
def scopeK (P : Program) (w0 : World) (rd : Option Nat) (n : Nat) (c : Code) (K : Post) : Nat → Post
 | 0, .goto l, ρ, ds, L => findLabel c l = none ∧ K (.goto l) ρ ds L
 | m + 1, .goto l, ρ, ds, L => (findLabel c l = none ∧ K (.goto l) ρ ds L) ∨ ∃ rest, findLabel c l = some rest ∧ CW P w0 rd n rest (scopeK P w0 rd n c K m) ρ ds L
 | _, e, ρ, ds, L => K e ρ ds L
variable {w0 : World} {rd : Option Nat} {n : Nat} {K : Post} {ρ : Env} {ds : List Deferred} {L : Chunk}
theorem CW.scope {c : Code} (m : Nat) (h : CW P w0 rd n c (scopeK P w0 rd n c K m) ρ ds L) : CW P w0 rd n (.scope c) K ρ ds L := by
 intro a w hr hs b k cs hro hb hroom
 have key : ∀ (m : Nat) (rest : Code) (a : Act) (w : World) (ρ : Env) (ds : List Deferred) (L : Chunk), Rep n a ρ ds → St w0 w L → CW P w0 rd n rest (scopeK P w0 rd n c K m) ρ ds L →
   ∃ e a' w', Kx w0 n K e a' w' ∧ ArrivesIn (Machine.fenced P (fence rd)) P (lone (b.atR a (.code rest :: .inScope c :: k)) cs w) b k cs e a' w' := by
  intro m
  induction m with
  | zero =>
   intro rest a w ρ ds L hr hs h
   obtain ⟨e, a₁, w₁, ⟨ρ₁, ds₁, L₁, hr₁, hs₁, hq⟩, harr⟩ := h a w hr hs b (.inScope c :: k) cs hro hb hroom
   cases e with
   | normal => exact ⟨.normal, a₁, w₁, ⟨ρ₁, ds₁, L₁, hr₁, hs₁, hq⟩, StepsIn.trans harr (.one (fenced_calm hb hroom rfl) stepR_inScope)⟩
   | exit id => exact ⟨_, a₁, w₁, ⟨ρ₁, ds₁, L₁, hr₁, hs₁, hq⟩, ⟨fun k' hk => harr.1 k' (by simp [exitTo, hk]), fun hr hk => harr.2 hr (by simp [exitTo, hk])⟩⟩
   | goto l =>
    obtain ⟨hf, hq⟩ := hq
    exact ⟨_, a₁, w₁, ⟨ρ₁, ds₁, L₁, hr₁, hs₁, hq⟩, ⟨fun k' hk => harr.1 k' (by simp [gotoIn, hf, hk]), fun hr hk => harr.2 hr (by simp [gotoIn, hf, hk])⟩⟩
   | ret => exact ⟨_, a₁, w₁, ⟨ρ₁, ds₁, L₁, hr₁, hs₁, hq⟩, harr⟩
   | panic ch => exact ⟨_, a₁, w₁, ⟨ρ₁, ds₁, L₁, hr₁, hs₁, hq⟩, harr⟩
   | outgrown => exact ⟨_, a₁, w₁, ⟨ρ₁, ds₁, L₁, hr₁, hs₁, hq⟩, harr⟩
  | succ m ih =>
   intro rest a w ρ ds L hr hs h
   obtain ⟨e, a₁, w₁, ⟨ρ₁, ds₁, L₁, hr₁, hs₁, hq⟩, harr⟩ := h a w hr hs b (.inScope c :: k) cs hro hb hroom
   cases e with
   | normal => exact ⟨.normal, a₁, w₁, ⟨ρ₁, ds₁, L₁, hr₁, hs₁, hq⟩, StepsIn.trans harr (.one (fenced_calm hb hroom rfl) stepR_inScope)⟩
   | exit id => exact ⟨_, a₁, w₁, ⟨ρ₁, ds₁, L₁, hr₁, hs₁, hq⟩, ⟨fun k' hk => harr.1 k' (by simp [exitTo, hk]), fun hr hk => harr.2 hr (by simp [exitTo, hk])⟩⟩
   | goto l =>
    rcases hq with ⟨hf, hq⟩ | ⟨rest', hf, hq⟩
    ·exact ⟨_, a₁, w₁, ⟨ρ₁, ds₁, L₁, hr₁, hs₁, hq⟩, ⟨fun k' hk => harr.1 k' (by simp [gotoIn, hf, hk]), fun hr hk => harr.2 hr (by simp [gotoIn, hf, hk])⟩⟩
    ·obtain ⟨e₂, a₂, w₂, hq₂, harr₂⟩ := ih rest' a₁ w₁ ρ₁ ds₁ L₁ hr₁ hs₁ hq
     exact ⟨e₂, a₂, w₂, hq₂, .of_steps (harr.1 _ (by simp [gotoIn, hf])) harr₂⟩
   | ret => exact ⟨_, a₁, w₁, ⟨ρ₁, ds₁, L₁, hr₁, hs₁, hq⟩, harr⟩
   | panic ch => exact ⟨_, a₁, w₁, ⟨ρ₁, ds₁, L₁, hr₁, hs₁, hq⟩, harr⟩
   | outgrown => exact ⟨_, a₁, w₁, ⟨ρ₁, ds₁, L₁, hr₁, hs₁, hq⟩, harr⟩
 obtain ⟨e, a', w', hq, harr⟩ := key m c a w ρ ds L hr hs h
 exact ⟨e, a', w', hq, .of_steps (.one (fenced_calm hb hroom rfl) stepR_scope) harr⟩
variable {c : Code} {m : Nat}
theorem scopeK_n (h : K .normal ρ ds L) : scopeK P w0 rd n c K m .normal ρ ds L := by cases m <;> exact h
theorem scopeK_ret (h : K .ret ρ ds L) : scopeK P w0 rd n c K m .ret ρ ds L := by cases m <;> exact h
theorem scopeK_exit {id : Nat} (h : K (.exit id) ρ ds L) : scopeK P w0 rd n c K m (.exit id) ρ ds L := by cases m <;> exact h
theorem scopeK_goto {l : Nat} {rest : Code} (hf : findLabel c l = some rest) (h : CW P w0 rd n rest (scopeK P w0 rd n c K m) ρ ds L) : scopeK P w0 rd n c K (m + 1) (.goto l) ρ ds L := .inr ⟨rest, hf, h⟩
theorem scopeK_steady (h : Steady K) : Steady (scopeK P w0 rd n c K m) := by cases m <;> exact h
instance stdScope [h : StdC K] : StdC (scopeK P w0 rd n c K m) := ⟨scopeK_steady h.out⟩
end scope
section ops
variable {P : Program} {ρ : Env} {L : Chunk} {ty : TypeId}
def shlV (k : IntKind) (a b : Int) : Int := k.wrap (a * 2 ^ min b.toNat k.bits)
def shrV (k : IntKind) (a b : Int) : Int := a.fdiv (2 ^ min b.toNat k.bits)
class NN (b : Int) : Prop where out : 0 ≤ b
@[reducible] def nnB : Int → Bool | .ofNat _ => true | .negSucc _ => false
theorem nnB_eq : ∀ b, nnB b = true → 0 ≤ b | .ofNat n, _ => Int.natCast_nonneg n
instance {b : Int} [h : IsT (nnB b)] : NN b := ⟨nnB_eq _ h.out⟩
instance (priority := high) {n : Nat} : NN (n : Int) := ⟨Int.natCast_nonneg n⟩
@[reducible] def natOf : Int → Nat | .ofNat n => n | .negSucc _ => 0
theorem natOf_eq : ∀ b, b.toNat = natOf b | .ofNat _ => rfl | .negSucc _ => rfl
instance toNNum {b : Int} [h : IsT (nnB b)] : ToN b (natOf b) := ⟨natOf_eq b⟩
instance op1Shl {t yt : TypeId} {x y : Operand} {k k' : IntKind} {a b : Int} [hx : EvO ρ x (.int k a)] [hy : EvO ρ y (.int k' b)] [h : NN b] : Op1 P ρ L (.binOp .shl t x y yt) ty (.int k (shlV k a b)) := ⟨yl_shl hx hy h.out⟩
instance op1Shr {t yt : TypeId} {x y : Operand} {k k' : IntKind} {a b : Int} [hx : EvO ρ x (.int k a)] [hy : EvO ρ y (.int k' b)] [h : NN b] : Op1 P ρ L (.binOp .shr t x y yt) ty (.int k (shrV k a b)) := ⟨yl_shr hx hy h.out⟩
instance opaBuildSlice0 {t e : TypeId} {n : Nat} [ht : Und P t (.slice e)] [hn : Siz P e n] : OpA P ρ L (.buildSlice t 0 #[]) ty (fun b => .slice (some ⟨b, 0, none⟩) 0 0) (.cells #[] e) :=
 ⟨fun c h => (by cases h), fun w o ho _ _ => ⟨{ w with heap := w.heap.push (.cells #[] e) }, by
  unfold execOp
  simp [ho, Instr.buildSlice, run_underlying ht.out, hn.out, Instr.fill, run_newRow]; rw [Array.eq_empty_of_size_eq_zero (xs := Array.map (fun _ => (default : Value)) (Array.range 0)) (by simp)], rfl, rfl, rfl⟩⟩
end ops
section appendMake
variable {P : Program} {ρ : Env} {L : Chunk} {ty : TypeId}
theorem zeroCells_one (z : Value) (n : Nat) : Builtin.zeroCells #[z] n = (List.replicate n z).toArray := by
 apply Array.ext
 ·simp [Builtin.zeroCells]
 ·intro i h1 h2
  simp [Builtin.zeroCells, Nat.mod_one]
theorem ef_appendMake {t t2 e : TypeId} {bytes m : Nat} {x y : Operand} {k : IntKind} {j : Int} {z : Value} {d : TypeDesc} {c : Nat}
  (ht : Und P t (.slice e)) (ht2 : Und P t2 (.int .i64)) (hz : Siz P e 1) (hzv : Zer P e z) (hsn : Sng z) (hby : Byt P e bytes) (hbp : 0 < bytes)
  (hx : EvO ρ x (.slice none 0 0)) (hy : EvO ρ y (.int k j)) (hj : ToN j m) (h : 0 < j ∧ j * bytes ≤ 140737488355328 ∧ j ≤ 140737488355328) :
  Ef P ρ L (.call { callee := .builtin .append, args := #[x, y], argTypes := #[t, t2] }) ty (fun v' L' => ∃ N', L' = N' ++ L ∧ Row e 1 N' v' m (List.replicate m z)) noPanic := by
 refine ⟨fun c h => (by cases h), fun w0 w rd a next Q o ho hty ha hst hn _ => ?_⟩
 obtain ⟨i, hi, hib⟩ := hby.out
 have hti : ∀ w, (typeInfo e).run P w = .ok i w := fun w => by simp [typeInfo, hi]
 have hm : j = (m : Int) := by have := hj.out; omega
 subst hm
 have hwr : IntKind.i64.wrap (m : Int) = m := wrap_in (k := .i64) ⟨by omega, by omega⟩
 have hmb : m * bytes ≤ 140737488355328 := by have := h.2.1; rw [← Int.natCast_mul] at this; omega
 have hn2 : ¬ ((9223372036854775807 : Int) < (m : Int)) := by omega
 have hn3 : ¬ (281474976710656 < Builtin.nextslicecap m 0 * i.bytes) := by
  have := growslice_fits (show 0 < m by omega) (by rw [hib]; exact hmb : m * i.bytes ≤ 140737488355328); omega
 have hn4 : ¬ (281474976710656 < (m : Int) * (i.bytes : Int)) := by rw [hib]; have := h.2.1; omega
 have hK : m ≤ grownCap w m 0 e := grownCap_ge w _ _ _
 have hm0 : ¬ m = 0 := by omega
 have hrun : (Builtin.append_ #[t, t2] o.type #[.slice none 0 0, .int k m]).run P w = .ok (.slice (some ⟨w.heap.size, 0, none⟩) m (grownCap w m 0 e))
   (w.drew.alloc (.cells (#[] ++ (Builtin.zeroCells z.cells m ++ Builtin.zeroCells z.cells (grownCap w m 0 e - m))) e)) := by
  unfold Builtin.append_
  simp [run_underlying ht.out, run_underlying ht2.out, hz.out, hti, hwr, asInt, asIntOf, show ¬ ((m : Int) < 0) by omega, hm0, hn2, hn3, hn4, choose, Sem.run, Question.forced, askRoom, newRow, newObj, Builtin.firstCells]
  simp [hzv.out, grownCap, hsn.out.1, Sem.run]
 have hunfold : (execOp (ev ρ) o).run P w = .ok (.value (.slice (some ⟨w.heap.size, 0, none⟩) m (grownCap w m 0 e))) (w.drew.alloc (.cells (#[] ++ (Builtin.zeroCells z.cells m ++ Builtin.zeroCells z.cells (grownCap w m 0 e - m))) e)) := by
  unfold execOp
  simp only [ho, resolve, invoke, builtin, Sem.run_bind, Sem.run_pure, Result.andThen_ok, List.map_toArray, List.map_cons, List.map_nil, hx.out, hy.out, hrun]
 rw [hunfold]
 refine hn _ _ ([(w.heap.size, _)] ++ L) ?_ ⟨[(w.heap.size, _)], rfl, by simp, .inr ⟨w.heap.size, grownCap w m 0 e, (Builtin.zeroCells z.cells (grownCap w m 0 e - m)).toList, rfl, rfl, hK, ?_⟩⟩
 ·have hst' : St w0 w.drew L := ⟨hst.os, hst.out, hst.nodup, hst.pn⟩
  have h9 := hst'.alloc (.cells (#[] ++ (Builtin.zeroCells z.cells m ++ Builtin.zeroCells z.cells (grownCap w m 0 e - m))) e)
  have e1 : (#[] ++ (Builtin.zeroCells z.cells m ++ Builtin.zeroCells z.cells (grownCap w m 0 e - m))) = (List.replicate m z ++ (Builtin.zeroCells z.cells (grownCap w m 0 e - m)).toList).toArray := by
   rw [hsn.out.1, zeroCells_one]; simp
  rw [← e1]
  exact h9
 ·rw [List.length_append, List.length_replicate, hsn.out.1, zeroCells_one]; simp; omega
variable {w0 : World} {rd : Option Nat} {n : Nat} {K : Post} {ds : List Deferred} {R : Chunk} {ops : Array Oper} {l : List Oper} {d : Nat} {pos : String} {after : Array Edge}
theorem OW.appendMake {t t2 e : TypeId} {bytes m : Nat} {x y : Operand} {k : IntKind} {j : Int} {z : Value}
  [ht : Und P t (.slice e)] [ht2 : Und P t2 (.int .i64)] [hz : Siz P e 1] [hzv : Zer P e z] [hsn : Sng z] [hby : Byt P e bytes] [hbp : NeNat bytes 0]
  [hx : EvO ρ x (.slice none 0 0)] [hy : EvO ρ y (.int k j)] [hj : ToN j m] (h : 0 < j ∧ j * bytes ≤ 140737488355328 ∧ j ≤ 140737488355328)
  (next : ∀ v' N', Row e 1 N' v' m (List.replicate m z) → OW P w0 rd n ops K l (upd ρ d v') ds (N' ++ L)) :
  OW P w0 rd n ops K (⟨some d, .call { callee := .builtin .append, args := #[x, y], argTypes := #[t, t2] }, ty, pos, after, none⟩ :: l) ρ ds L :=
 OW.eff (ef_appendMake (d := .bool) (c := 0) ht ht2 hz hzv hsn hby (Nat.pos_of_ne_zero hbp.ne) hx hy hj h) (fun v' L' ⟨N', h1, h2⟩ => by subst h1; exact next v' N' h2) (fun _ _ h => h.elim)
end appendMake
section leave
variable {P : Program} {w0 : World} {rd : Option Nat} {n : Nat} {K : Post} {ρ : Env} {ds : List Deferred} {L : Chunk} {ops : Array Oper} {l : List Oper} {d : Nat} {pos : String} {after : Array Edge} {ty : TypeId} {dst : Option Tmp}
theorem OW.defer {x : Operand} {args : List Operand} {at_ : Array TypeId} {f : FuncId} {cap : Array Value} {vs : List Value} [hx : EvO ρ x (.func (.func f) #[] cap)] [hv : EvL ρ args vs]
  (next : OW P w0 none n ops K l ρ ({ target := .fn (.func f) cap, args := vs.toArray } :: ds) L) :
  OW P w0 none n ops K (⟨none, .defer { callee := .value x, args := args.toArray, argTypes := at_ }, ty, pos, after, none⟩ :: l) ρ ds L := by
 intro hok a w hr hs
 simp only [List.all_cons, Bool.and_eq_true] at hok
 refine wpListIn_plain rfl fun K' hK => ?_
 refine ⟨fun f hf => trivial, ?_⟩
 have hargs : args.toArray.map (ev ρ) = vs.toArray := by rw [← hv.out]; simp
 have e : (Oper.semAt (fence none).round a.eval ⟨none, .defer { callee := .value x, args := args.toArray, argTypes := at_ }, ty, pos, after, none⟩).run P w = .ok (.defer { target := .fn (.func f) cap, args := vs.toArray }) w := by
  rw [fence_round, Oper.semAt_none, hr.eval]
  unfold execOp
  simp [resolve, hx.out, Deferred.ofValue, hargs]
 rw [e, Oper.uponIn_defer]
 exact hK _ _ (next hok.2 _ _ ⟨hr.size, hr.get, by simp [Act.put, hr.ds]⟩ hs)
def bodyD (P : Program) (fn : Func) (R : Ending → Chunk → Prop) : Post
 | .normal, ρ, ds, L | .ret, ρ, ds, L => ds = [] ∧ ∃ v L', L'.Sublist L ∧ Res P fn ρ L v ∧ R (.returned v) L'
 | .panic ch, _, ds, L => ds = [] ∧ ∃ L', L'.Sublist L ∧ R (.panicked ch) L'
 | _, _, _, _ => False
theorem bodyD.steady {fn : Func} {R : Ending → Chunk → Prop} : Steady (bodyD P fn R) := fun _ _ _ _ _ h => h
instance stdBodyD {fn : Func} {R : Ending → Chunk → Prop} : StdC (bodyD P fn R) := ⟨bodyD.steady⟩
variable {fn : Func} {R : Ending → Chunk → Prop} {v : Value}
theorem bodyD.nrm (L' : Chunk) [hs : SubC L' L] (hr : Res P fn ρ L v) (h : R (.returned v) L') : bodyD P fn R .normal ρ [] L := ⟨rfl, v, L', hs.out, hr, h⟩
theorem bodyD.ret (L' : Chunk) [hs : SubC L' L] (hr : Res P fn ρ L v) (h : R (.returned v) L') : bodyD P fn R .ret ρ [] L := ⟨rfl, v, L', hs.out, hr, h⟩
end leave
section count
variable {P : Program} {w0 : World} {rd : Option Nat} {n : Nat} {K : Post} {ρ : Env} {ds : List Deferred} {L : Chunk}
theorem CW.count {c : Code} (N : Nat) (I : Nat → Env → List Deferred → Chunk → Prop) (h0 : I 0 ρ ds L)
  (round : ∀ i ρ ds L, i ≤ N → I i ρ ds L → CW P w0 rd n c (thenK (fun ρ' ds' L' => i < N ∧ I (i + 1) ρ' ds' L') K) ρ ds L) : CW P w0 rd n (.loop c) K ρ ds L := by
 refine CW.loop (fun m ρ ds L => ∃ i, m + i = N ∧ I i ρ ds L) N ⟨0, rfl, h0⟩ ?_
 rintro m ρ ds L ⟨i, hm, hi⟩
 refine CW.mono (round i ρ ds L (by omega) hi) fun e ρ' ds' L' h => ?_
 cases e with
 | normal => exact ⟨m - 1, by have := h.1; omega, i + 1, by have := h.1; omega, h.2⟩
 | _ => exact h
end count
theorem Rd.open1 {L : Chunk} {n : Nat} {v : Value} {xs : List Value} (h : Rd L 1 v n xs) (hn : n ≠ 0) :
  ∃ b k cap l e fr, v = .slice (some ⟨b, k, none⟩) n cap ∧ InC L b (.cells (List.toArray l) e fr) ∧ n ≤ cap ∧ ∀ i x, i < n → xs[i]? = some x → NthL l (k + i) x := by
 obtain ⟨b, k, cap, l, e, fr, h1, h2, h3, h4⟩ := h.open hn
 refine ⟨b, k, cap, l, e, fr, h1, h2, h3, fun i x hi hx => ?_⟩
 have := h4 i hi
 rw [Nat.mul_one] at this
 refine this.nth ?_
 have hl := h.1
 have hi' : i < xs.length := by omega
 rw [List.getElem?_eq_getElem hi'] at hx
 cases hx
 rw [List.drop_eq_getElem_cons hi']
 rfl
theorem bv_get {xs : List Int} {i : Nat} (h : i < xs.length) : (bv xs)[i]? = some (.int .u8 xs[i]) := by simp [bv, h]
def iv (xs : List Int) : List Value := xs.map (Value.int .i64)
theorem iv_get {xs : List Int} {i : Nat} (h : i < xs.length) : (iv xs)[i]? = some (.int .i64 xs[i]) := by simp [iv, h]
class FillA (n : Nat) (cells : List Value) (parts : List (Nat × Value)) (out : outParam (List Value)) : Prop where
 out : Instr.fill (fun i => some (i * n, n)) cells.toArray parts = some out.toArray
instance fillANil {n : Nat} {cells : List Value} : FillA n cells [] cells := ⟨rfl⟩
instance fillACons {cells cells' out vs : List Value} {i off n : Nat} {v : Value} {parts : List (Nat × Value)}
  [hm : MulN i n off] [hc : CellsL v vs] [hl : LenL vs n] [hput : PutL cells off vs cells'] [hf : FillA n cells' parts out] : FillA n cells ((i, v) :: parts) out := ⟨by
 have h2 : v.cells.size = n := by rw [hc.out]; simp [hl.out]
 have h3 := hput.out.1
 have hm' := hm.out
 have h4 : (v.cells.zipIdx.foldl (fun cs (c, j) => cs.setIfInBounds (off + j) c) cells.toArray) = cells'.toArray := by
  apply Array.ext'
  rw [hc.out, ← Array.foldl_toList]
  have := foldl_put off vs 0 cells.toArray (by simpa using h3)
  simp only [Nat.add_zero] at this
  rw [← hput.out.2]
  simpa using this
 simp only [Instr.fill, hm']
 rw [if_neg (by rw [h2, ← hl.out]; simp; omega), h4]
 exact hf.out⟩
section
variable {P : Program} {ρ : Env} {L : Chunk} {ty : TypeId}
instance op1BuildArr {t e : TypeId} {m n : Nat} {z out : List Value} {parts : List (Nat × Operand)} {vparts : List (Nat × Value)}
  [hp : Und P t (.array m e)] [hs : Siz P e n] [hz : Zer P t (.agg z.toArray)] [he : EvP ρ parts vparts] [hf : FillA n z vparts out] : Op1 P ρ L (.build t parts.toArray) ty (.agg out.toArray) :=
 ⟨yl_of_run (fun c h => (by cases h)) fun w o ho _ _ => by
  have h3 : (parts.toArray.map fun (i, x) => (i, ev ρ x)).toList = vparts := by rw [← he.out]; simp
  unfold execOp
  simp only [ho, Instr.build, Sem.run_bind, hz.out, Result.andThen_ok, run_underlying hp.out, hs.out, h3, Value.cells, hf.out, Sem.run_pure]⟩
end
section rounds
variable {P : Program} {w0 : World} {rd : Option Nat} {n : Nat} {K : Post} {ρ : Env} {ds : List Deferred} {L : Chunk}
variable {assign body : Code} {D lp : Nat} {rec : LoopState → Option Code → Obj} {Φ : Value → Chunk → Prop}
theorem beginR {L₁ : Chunk} [h1 : InC L lp (rec .ready none)] [h2 : UpdC L lp (rec .busy none) L₁] (h : CW P w0 rd n body K ρ ds L₁) :
  ∃ L₁, InC L lp (rec .ready none) ∧ UpdC L lp (rec .busy none) L₁ ∧ CW P w0 rd n body K ρ ds L₁ := ⟨L₁, h1, h2, h⟩
theorem VP.yield1 {p : Tmp} {a : Value} (hrec : IsRec n ρ #[p] assign body D rec) [hin : InC L lp (rec .ready none)] (hp : p < n)
  (h : ∀ w0, CW P w0 (some lp) n assign (thenK (fun ρ' ds' L' => ∃ L₁, InC L' lp (rec .ready none) ∧ UpdC L' lp (rec .busy none) L₁ ∧ CW P w0 (some lp) n body (roundK lp rec Φ) ρ' ds' L₁) (fun _ _ _ _ => False)) (upd ρ p a) [] L) :
  VP P (.func (.yield lp) #[] #[]) [a] L Φ noPanic := VP.yield hrec hin rfl (by simp [hp]) h
theorem VP.yield2 {p q : Tmp} {a b : Value} (hrec : IsRec n ρ #[p, q] assign body D rec) [hin : InC L lp (rec .ready none)] (hp : p < n) (hq : q < n)
  (h : ∀ w0, CW P w0 (some lp) n assign (thenK (fun ρ' ds' L' => ∃ L₁, InC L' lp (rec .ready none) ∧ UpdC L' lp (rec .busy none) L₁ ∧ CW P w0 (some lp) n body (roundK lp rec Φ) ρ' ds' L₁) (fun _ _ _ _ => False)) (upd (upd ρ p a) q b) [] L) :
  VP P (.func (.yield lp) #[] #[]) [a, b] L Φ noPanic := VP.yield hrec hin rfl (by simp [hp, hq]) h
end rounds
section unroll
variable {P : Program} {w0 : World} {rd : Option Nat} {n : Nat} {K : Post} {ρ : Env} {ds : List Deferred} {L : Chunk}
def loopK (P : Program) (w0 : World) (rd : Option Nat) (n : Nat) (c : Code) (K : Post) : Nat → Post
 | 0, .normal, _, _, _ => False
 | m + 1, .normal, ρ, ds, L => CW P w0 rd n c (loopK P w0 rd n c K m) ρ ds L
 | _, e, ρ, ds, L => K e ρ ds L
theorem CW.loopU {c : Code} (m : Nat) (h : CW P w0 rd n c (loopK P w0 rd n c K m) ρ ds L) : CW P w0 rd n (.loop c) K ρ ds L := by
 refine CW.loop (fun j ρ ds L => CW P w0 rd n c (loopK P w0 rd n c K j) ρ ds L) m h ?_
 intro j ρ ds L h
 refine CW.mono h fun e ρ' ds' L' hk => ?_
 cases e <;> cases j <;> first | exact hk.elim | exact ⟨_, Nat.lt_succ_self _, hk⟩ | exact hk
variable {c : Code} {m : Nat}
theorem loopK_n (h : CW P w0 rd n c (loopK P w0 rd n c K m) ρ ds L) : loopK P w0 rd n c K (m + 1) .normal ρ ds L := h
theorem loopK_ret (h : K .ret ρ ds L) : loopK P w0 rd n c K m .ret ρ ds L := by cases m <;> exact h
theorem loopK_exit {id : Nat} (h : K (.exit id) ρ ds L) : loopK P w0 rd n c K m (.exit id) ρ ds L := by cases m <;> exact h
theorem loopK_steady (h : Steady K) : Steady (loopK P w0 rd n c K m) := by cases m <;> exact h
instance stdLoop [h : StdC K] : StdC (loopK P w0 rd n c K m) := ⟨loopK_steady h.out⟩
theorem CW.drawsR {id : Nat} {l : List Oper} (R : Chunk) (is : List Nat) (hm : P.follows .mixedOrders = true) (hok : regionOk n l.toArray is = true) [hK : StdC K] [hR : MemC R L]
  {l' : List Oper} [hp : Pick l is l'] (h : RW P w0 rd n l.toArray K l' R ρ ds L) : CW P w0 rd n (.region id l.toArray true) K ρ ds L := CW.draws is hm hok hK.out R hR.out (hp.out ▸ h)
end unroll
theorem Row.slice {e : TypeId} {s n : Nat} {N : Chunk} {v : Value} {xs : List Value} (h : Row e s N v n xs) : ∃ a c, v = .slice a n c := by
 rcases h.2 with ⟨rfl, rfl, rfl⟩ | ⟨b, cap, rest, rfl, _⟩
 ·exact ⟨_, _, rfl⟩
 ·exact ⟨_, _, rfl⟩
theorem Row.sng {e : TypeId} {s n : Nat} {N : Chunk} {v : Value} {xs : List Value} (h : Row e s N v n xs) : Sng v := by obtain ⟨a, c, rfl⟩ := h.slice; infer_instance
theorem Row.build {e : TypeId} {s n b : Nat} {l : List Value} (h : l.length = n * s) : Row e s [(b, .cells l.toArray e (0, 0))] (.slice (some ⟨b, 0, none⟩) n n) n l :=
 ⟨h, .inr ⟨b, n, [], rfl, by simp, Nat.le_refl _, by simpa using h⟩⟩
section drawsE
variable {P : Program} {w0 : World} {rd : Option Nat} {n : Nat} {K : Post} {ρ : Env} {ds : List Deferred} {L : Chunk}
theorem CW.drawsE {id : Nat} {l : List Oper} (R : Chunk) (is : List Nat) (k : Nat) (hm : P.follows .mixedOrders = true) (hok : regionOkE n l.toArray is k = true) [hK : StdC K] [hR : MemC R L]
  {l0 l1 : List Oper} [h0 : Pick l is l0] [h1 : Pick l [k] l1] (h : RW P w0 rd n l.toArray (thenK (fun ρ ds L => OW P w0 rd n l.toArray K l1 ρ ds L) K) l0 R ρ ds L) : CW P w0 rd n (.region id l.toArray true) K ρ ds L :=
 CW.draws_end is k hm hok hK.out R hR.out (by rw [h0.out, h1.out]; exact h)
end drawsE
end Go.Pw

namespace Go.Pw
section
variable {P : Program} {w0 : World} {rd : Option Nat} {n : Nat} {K : Post} {ρ : Env} {ds : List Deferred} {L R : Chunk} {l : List Oper} {ops : Array Oper} {ty : TypeId} {d : Tmp} {pos : String} {after : Array Edge} {op : Op} {v : Value} {g : Option (Nat × Bool)}
theorem Z1 {id : Nat} {l l' : List Oper} [hf : FlatO l l'] (h : OW P w0 rd n l'.toArray K l' ρ ds L) (hok : l.all (dstOk n) = true := by kernel_rfl) : CW P w0 rd n (.region id l.toArray false) K ρ ds L := CW.regionF hok h
theorem Z2 {ops l : List Oper} {d d' s1 s2 : Nat} {b b' : Bool} [hs : SpanD d l s1 s2] (next : ∀ X, K .normal (upd (mask (s1, s2) X ρ) d' (.bool b')) ds L) (h : skipAll ops d b l = some (d', b') := by rfl) (hl : l ≠ [] := by exact List.cons_ne_nil _ _) : OW P w0 rd n ops.toArray K l (upd ρ d (.bool b)) ds L := OW.skip h hl next
theorem Z3 {k : IntKind} {e : Int} [h : Op1 P ρ L op ty (.int k (k.wrap e))] (next : OW P w0 rd n ops K l (upd ρ d (.int k e)) ds L) (hr : inR k e := by constructor; omega; omega) : OW P w0 rd n ops K (⟨some d, op, ty, pos, after, none⟩ :: l) ρ ds L := OW.w hr next
theorem Z4 {p : Prop} [Decidable p] [h : Op1 P ρ L op ty (.bool (decide p))] (next : OW P w0 rd n ops K l (upd ρ d (.bool true)) ds L) (hp : p := by omega) : OW P w0 rd n ops K (⟨some d, op, ty, pos, after, none⟩ :: l) ρ ds L := OW.decT hp next
theorem Z5 {p : Prop} [Decidable p] [h : Op1 P ρ L op ty (.bool (decide p))] (next : OW P w0 rd n ops K l (upd ρ d (.bool false)) ds L) (hp : ¬ p := by omega) : OW P w0 rd n ops K (⟨some d, op, ty, pos, after, none⟩ :: l) ρ ds L := OW.decF hp next
theorem Z6 {t yt : TypeId} {x y : Operand} {k : IntKind} {a b : Int} [hx : EvO ρ x (.int k a)] [hy : EvO ρ y (.int k b)] (next : OW P w0 rd n ops K l (upd ρ d (.int k (a % b))) ds L) (h : 0 ≤ a ∧ 0 < b := by constructor; omega; omega) : OW P w0 rd n ops K (⟨some d, .binOp .rem t x y yt, ty, pos, after, none⟩ :: l) ρ ds L := OW.rem h next
theorem Z7 {t yt : TypeId} {x y : Operand} {k : IntKind} {a b : Int} [hx : EvO ρ x (.int k a)] [hy : EvO ρ y (.int k b)] (next : OW P w0 rd n ops K l (upd ρ d (.int k (a / b))) ds L) (h : 0 ≤ a ∧ 0 < b ∧ inR k a := by refine ⟨?_, ?_, ?_, ?_⟩; omega; omega; omega; omega) : OW P w0 rd n ops K (⟨some d, .binOp .quo t x y yt, ty, pos, after, none⟩ :: l) ρ ds L := OW.quo h next
theorem Z8 {t e : TypeId} {x i : Operand} {b k m c sz j' o k' : Nat} {kk : IntKind} {j : Int} [ht : Und P t (.slice e)] [hz : Siz P e sz] [hx : EvO ρ x (.slice (some ⟨b, k, none⟩) m c)] [hi : EvO ρ i (.int kk j)] [hj : ToN j j'] [ho : MulN j' sz o] [hk : AddN k o k'] (next : OW P w0 rd n ops K l (upd ρ d (.pointer (some ⟨b, k', none⟩))) ds L) (h : 0 ≤ j ∧ j < m := by constructor; omega; omega) : OW P w0 rd n ops K (⟨some d, .indexAddr t x i, ty, pos, after, none⟩ :: l) ρ ds L := OW.ix h next
theorem Z9 {t e : TypeId} {x i : Operand} {b k m sz j' o k' : Nat} {kk : IntKind} {j : Int} [ht : Und P t (.array m e)] [hz : Siz P e sz] [hx : EvO ρ x (.pointer (some ⟨b, k, none⟩))] [hi : EvO ρ i (.int kk j)] [hj : ToN j j'] [ho : MulN j' sz o] [hk : AddN k o k'] (next : OW P w0 rd n ops K l (upd ρ d (.pointer (some ⟨b, k', none⟩))) ds L) (h : 0 ≤ j ∧ j < m := by constructor; omega; omega) : OW P w0 rd n ops K (⟨some d, .indexAddr t x i, ty, pos, after, none⟩ :: l) ρ ds L := OW.ixA h next
theorem Z11 {ops l : List Oper} {d d' s1 s2 : Nat} {b b' : Bool} [hs : SpanD d l s1 s2] (next : ∀ X, K .normal (upd (mask (s1, s2) X ρ) d' (.bool b')) ds L) (h : skipAll ops d b l = some (d', b') := by rfl) (hl : l ≠ [] := by exact List.cons_ne_nil _ _) : RW P w0 rd n ops.toArray K l R (upd ρ d (.bool b)) ds L := RW.skip h hl next
theorem Z12 [hg : GdT ops ρ g] {k : IntKind} {e : Int} [h : Op1 P ρ R op ty (.int k (k.wrap e))] (next : RW P w0 rd n ops K l R (upd ρ d (.int k e)) ds L) (hr : inR k e := by constructor; omega; omega) (he : isEff ⟨some d, op, ty, pos, after, g⟩ = false := by rfl) : RW P w0 rd n ops K (⟨some d, op, ty, pos, after, g⟩ :: l) R ρ ds L := RW.w hr he next
theorem Z13 [hg : GdT ops ρ g] {p : Prop} [Decidable p] [h : Op1 P ρ R op ty (.bool (decide p))] (next : RW P w0 rd n ops K l R (upd ρ d (.bool true)) ds L) (hp : p := by omega) (he : isEff ⟨some d, op, ty, pos, after, g⟩ = false := by rfl) : RW P w0 rd n ops K (⟨some d, op, ty, pos, after, g⟩ :: l) R ρ ds L := RW.decT hp he next
theorem Z14 [hg : GdT ops ρ g] {p : Prop} [Decidable p] [h : Op1 P ρ R op ty (.bool (decide p))] (next : RW P w0 rd n ops K l R (upd ρ d (.bool false)) ds L) (hp : ¬ p := by omega) (he : isEff ⟨some d, op, ty, pos, after, g⟩ = false := by rfl) : RW P w0 rd n ops K (⟨some d, op, ty, pos, after, g⟩ :: l) R ρ ds L := RW.decF hp he next
theorem Z15 [hg : GdT ops ρ g] [h : Op1 P ρ R op ty v] (next : RW P w0 rd n ops K l R (upd ρ d v) ds L) (he : isEff ⟨some d, op, ty, pos, after, g⟩ = false := by rfl) : RW P w0 rd n ops K (⟨some d, op, ty, pos, after, g⟩ :: l) R ρ ds L := RW.p he next
theorem Z16 [hg : GdT ops ρ g] [h : Op1 P ρ R op ty v] (next : RW P w0 rd n ops K l R ρ ds L) (he : isEff ⟨none, op, ty, pos, after, g⟩ = false := by rfl) : RW P w0 rd n ops K (⟨none, op, ty, pos, after, g⟩ :: l) R ρ ds L := RW.p0 he next
theorem Z17 {t e : TypeId} {x i : Operand} {b k m c sz j' o k' : Nat} {kk : IntKind} {j : Int} [hg : GdT ops ρ g] [ht : Und P t (.slice e)] [hz : Siz P e sz] [hx : EvO ρ x (.slice (some ⟨b, k, none⟩) m c)] [hi : EvO ρ i (.int kk j)] [hj : ToN j j'] [ho : MulN j' sz o] [hk : AddN k o k'] (next : RW P w0 rd n ops K l R (upd ρ d (.pointer (some ⟨b, k', none⟩))) ds L) (h : 0 ≤ j ∧ j < m := by constructor; omega; omega) : RW P w0 rd n ops K (⟨some d, .indexAddr t x i, ty, pos, after, g⟩ :: l) R ρ ds L := RW.ix h next
theorem Z18 {t e : TypeId} {x i : Operand} {b k m sz j' o k' : Nat} {kk : IntKind} {j : Int} [hg : GdT ops ρ g] [ht : Und P t (.array m e)] [hz : Siz P e sz] [hx : EvO ρ x (.pointer (some ⟨b, k, none⟩))] [hi : EvO ρ i (.int kk j)] [hj : ToN j j'] [ho : MulN j' sz o] [hk : AddN k o k'] (next : RW P w0 rd n ops K l R (upd ρ d (.pointer (some ⟨b, k', none⟩))) ds L) (h : 0 ≤ j ∧ j < m := by constructor; omega; omega) : RW P w0 rd n ops K (⟨some d, .indexAddr t x i, ty, pos, after, g⟩ :: l) R ρ ds L := RW.ixA h next
theorem Z19 {L' : Chunk} [hg : GdT ops ρ g] [h : OpU P ρ L op ty L'] [hR : SubC R L'] (next : RW P w0 rd n ops K l R ρ ds L') (he : isEff ⟨none, op, ty, pos, after, g⟩ = true := by rfl) : RW P w0 rd n ops K (⟨none, op, ty, pos, after, g⟩ :: l) R ρ ds L := RW.u he next
theorem Z20 {f : Nat → Value} {o : Obj} [hg : GdT ops ρ g] [h : OpA P ρ L op ty f o] [hR : SubC R L] (next : ∀ b, RW P w0 rd n ops K l R (upd ρ d (f b)) ds ((b, o) :: L)) (he : isEff ⟨some d, op, ty, pos, after, g⟩ = true := by rfl) : RW P w0 rd n ops K (⟨some d, op, ty, pos, after, g⟩ :: l) R ρ ds L := RW.a he next
end
abbrev Y1 := @CW.seq
abbrev Y2 := @CW.block
abbrev Y3 := @CW.skip
abbrev Y4 := @CW.label
abbrev Y5 := @CW.exit
abbrev Y6 := @CW.goto
abbrev Y7 := @CW.ret
abbrev Y8 := @CW.condT
abbrev Y9 := @CW.condF
abbrev Y10 := @OW.nil
abbrev Y11 := @OW.gT
abbrev Y12 := @OW.gF
abbrev Y13 := @OW.gF0
abbrev Y14 := @OW.p
abbrev Y15 := @OW.p0
abbrev Y16 := @OW.u
abbrev Y17 := @RW.nil
abbrev Y18 := @RW.gF
abbrev Y19 := @RW.gF0
abbrev Y20 := @thenK_n
abbrev Y21 := @thenK_ret
abbrev Y22 := @thenK_exit
abbrev Y23 := @thenK_goto
abbrev Y24 := @blockK_n
abbrev Y25 := @blockK_ret
abbrev Y26 := @blockK_same
abbrev Y27 := @blockK_other
abbrev Y28 := @blockK_goto
abbrev Y29 := @loopK_n
abbrev Y30 := @loopK_ret
abbrev Y31 := @loopK_exit
abbrev Y32 := @scopeK_n
abbrev Y33 := @scopeK_ret
abbrev Y34 := @scopeK_exit
end Go.Pw

namespace Go.Pw
section
variable {P : Program} {w0 : World} {rd : Option Nat} {n : Nat} {K : Post} {ρ : Env} {ds : List Deferred} {L : Chunk} {l : List Oper}
def chain (ops : Array Oper) : List Nat → Array Bool → Bool
 | [], listed => (Region.ready .any ops listed).isEmpty
 | k :: ks, listed => (Region.ready .any ops listed == [k]) && (ops[k]?).isSome && chain ops ks (listed.setIfInBounds k true)
theorem OW.perm {ops : Array Oper} {L' : Chunk} (hp : L.Perm L') (h : OW P w0 rd n ops K l ρ ds L') : OW P w0 rd n ops K l ρ ds L :=
 fun hok a w hr hst => h hok a w hr ⟨hst.os, hst.out, (hp.map _).nodup_iff.1 hst.nodup, fun b o hb => hst.pn b o (hp.mem_iff.2 hb)⟩
end
@[reducible] def ltN : Nat → Nat → Bool
 | 0, _ + 1 => true
 | _, 0 => false
 | n + 1, m + 1 => ltN n m
theorem ltN_lt : ∀ {a b : Nat}, ltN a b = true → a < b
 | 0, _ + 1, _ => by omega
 | 0, 0, h => by cases h
 | _ + 1, 0, h => by cases h
 | n + 1, m + 1, h => by have := ltN_lt (a := n) (b := m) h; omega
instance (priority := high) outLowN {a b t : Nat} [h : IsT (ltN t a)] : OutS (a, b) t := ⟨fun h' => by have := ltN_lt h.out; have := h'.1; simp at *; omega⟩
instance (priority := high) outHighN {a b t : Nat} [h : IsT (ltN b t)] : OutS (a, b) t := ⟨fun h' => by have := ltN_lt h.out; have := h'.2; simp at *; omega⟩
end Go.Pw
