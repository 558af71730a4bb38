/-
  For every input the law ModelCopies returns true, and each argument reads behind the call as it read before. This text holds lemmas for it (part 3).
  Conditions: none.
-/
import Derived.Test.YtocjgcmgkaabiaaGreatMC1
import Derived.Test.YtocjgcmgkaabiaaGreatMC2
set_option linter.all false
namespace Go.Pw
section
variable {P : Program} {w0 : World} {rd : Option Nat} {n : Nat} {K : Post} {ρ : Env} {ds : List Deferred} {L R : Chunk} {l : List Oper} {ops : Array Oper} {ty : TypeId} {d : Nat} {pos : String} {after : Array Edge}
theorem run_firstCells_part {w : World} {n m : Nat} {u : Value} {xs : List Value} (h : Rd L 1 u m xs) (hn : n ≤ m) (hp : Pn w L) : (Builtin.firstCells 1 n u).run P w = .ok (xs.take n).toArray w := by
  rcases h.2 with ⟨⟨a, cap, rfl⟩, rfl⟩ | ⟨b, k, cap, c, e, fr, rfl, h1, h2, h3, _⟩
  · obtain rfl : n = 0 := by omega
    cases a with
    | none => simp [Builtin.firstCells]
    | some a => simp only [Builtin.firstCells, Nat.zero_mul, run_loadCells0]; simp
  · simp only [Builtin.firstCells]
    rw [run_loadCells_rd (hp _ _ h1) (by omega)]
    have : ((c.toList.drop k).take (n * 1)) = xs.take n := by
      rw [← h3, List.take_take]
      congr 1
      omega
    rw [this]
theorem ef_copy {t t2 e : TypeId} {x y : Operand} {b k nd cd m : Nat} {l0 : List Value} {u : Value} {xs : List Value} {L' : Chunk} (ht : Und P t (.slice e)) (hz : Siz P e 1) (hx : EvO ρ x (.slice (some ⟨b, k, none⟩) nd cd)) (hy : EvO ρ y u) (hrd : Rd L 1 u m xs)
    (hb : InC L b (.cells l0.toArray e (0, 0))) (hsng : ∀ v ∈ xs, Sng v) (hle : k + nd ≤ l0.length) (hu : UpdC L b (.cells (l0.take k ++ xs.take (min m nd) ++ l0.drop (k + min m nd)).toArray e (0, 0)) L') :
    Ef P ρ L (.call { callee := .builtin .copy, args := #[x, y], argTypes := #[t, t2] }) ty (fun v L'' => v = .int .i64 (min m nd : Nat) ∧ L'' = L') noPanic := by
  refine ⟨fun c h => (by cases h), fun w0 w rd a next Q o ho hty ha hst hn _ => ?_⟩
  have hlen := lenOf_rd (P := P) (w := w) hrd
  have hcells := run_firstCells_part (P := P) hrd (Nat.min_le_left m nd) hst.pn
  have hxl := hrd.1
  have htl : (xs.take (min m nd)).length = min m nd := by rw [List.length_take]; omega
  have hu' : UpdC L b (.cells (l0.toArray.toList.take (k + 0) ++ xs.take (min m nd) ++ l0.toArray.toList.drop (k + 0 + (xs.take (min m nd)).length)).toArray e (0, 0)) L' := by
    simp only [Nat.add_zero, htl]; exact hu
  obtain ⟨w', hr, hs⟩ := run_storeCells_st (P := P) (k := k) (xs.take (min m nd)) 0 w l0.toArray L L' (fun v hv => hsng v (List.mem_of_mem_take hv)) hst hb (by rw [htl]; simp; omega) hu'
  have hrun : (execOp (ev ρ) o).run P w = .ok (.value (.int .i64 (min m nd : Nat))) w' := by
    unfold execOp
    have hnm : Nat.min m nd = min m nd := rfl
    simp only [ho, resolve, invoke, builtin, Sem.run_bind, Sem.run_pure, Result.andThen_ok, List.map_toArray, List.map_cons, List.map_nil, hx.out, hy.out]
    simp [Builtin.copy_, run_underlying ht.out, hlen, hz.out, hnm, hcells, hr, goInt]
  rw [hrun]
  exact hn _ _ L' hs ⟨rfl, rfl⟩
theorem OW.copy {t t2 e : TypeId} {x y : Operand} {b k nd cd m : Nat} {l0 : List Value} {u : Value} {xs : List Value} {L' : Chunk} [ht : Und P t (.slice e)] [hz : Siz P e 1] [hx : EvO ρ x (.slice (some ⟨b, k, none⟩) nd cd)] [hy : EvO ρ y u] (hrd : Rd L 1 u m xs)
    [hb : InC L b (.cells l0.toArray e (0, 0))] (hsng : ∀ v ∈ xs, Sng v) (hle : k + nd ≤ l0.length) [hu : UpdC L b (.cells (l0.take k ++ xs.take (min m nd) ++ l0.drop (k + min m nd)).toArray e (0, 0)) L']
    (next : OW P w0 rd n ops K l (upd ρ d (.int .i64 (min m nd : Nat))) ds L') : OW P w0 rd n ops K (⟨some d, .call { callee := .builtin .copy, args := #[x, y], argTypes := #[t, t2] }, ty, pos, after, none⟩ :: l) ρ ds L :=
  OW.eff (ef_copy ht hz hx hy hrd hb hsng hle hu) (fun v L'' ⟨h1, h2⟩ => by subst h1 h2; exact next) (fun _ _ h => h.elim)
theorem RW.copy {t t2 e : TypeId} {x y : Operand} {b k nd cd m : Nat} {l0 : List Value} {u : Value} {xs : List Value} {L' : Chunk} {g : Option (Nat × Bool)} [hg : GdT ops ρ g] [ht : Und P t (.slice e)] [hz : Siz P e 1] [hx : EvO ρ x (.slice (some ⟨b, k, none⟩) nd cd)] [hy : EvO ρ y u] (hrd : Rd L 1 u m xs)
    [hb : InC L b (.cells l0.toArray e (0, 0))] (hsng : ∀ v ∈ xs, Sng v) (hle : k + nd ≤ l0.length) [hu : UpdC L b (.cells (l0.take k ++ xs.take (min m nd) ++ l0.drop (k + min m nd)).toArray e (0, 0)) L']
    (next : ∃ R', (∀ p ∈ R, p ∈ R') ∧ (∀ p ∈ R', p ∈ L') ∧ RW P w0 rd n ops K l R' (upd ρ d (.int .i64 (min m nd : Nat))) ds L') : RW P w0 rd n ops K (⟨some d, .call { callee := .builtin .copy, args := #[x, y], argTypes := #[t, t2] }, ty, pos, after, g⟩ :: l) R ρ ds L :=
  RW.eff hg.out (by rfl) (ef_copy ht hz hx hy hrd hb hsng hle hu) (fun v L'' ⟨h1, h2⟩ => by subst h1 h2; exact next) (fun _ _ h => h.elim)
end
end Go.Pw

namespace Go.Pw
section
variable {P : Program} {w0 : World} {rd : Option Nat} {n : Nat} {K : Post} {ρ : Env} {ds : List Deferred} {L R : Chunk} {l : List Oper} {ops : Array Oper} {ty : TypeId} {d : Nat} {pos : String} {after : Array Edge}
theorem RW.lookOk {t kt et : TypeId} {x y : Operand} {k k' : IntKind} {j : Int} {m c : Nat} {es : List MapEntry} {z : Value} {g : Option (Nat × Bool)} [hg : GdT ops ρ g] [ht : Und P t (.map kt et)] [hk : Und P kt (.int k')] [hz : Zer P et z] [hx : EvO ρ x (.map (some m))] [hy : EvO ρ y (.int k j)] [hin : InC R m (.map es.toArray c)] (hes : keysI k es)
    (hs : ∀ v, findI es j = some v → RW P w0 rd n ops K l R (upd ρ d (.tuple #[v, .bool true])) ds L) (hn : findI es j = none → RW P w0 rd n ops K l R (upd ρ d (.tuple #[z, .bool false])) ds L) :
    RW P w0 rd n ops K (⟨some d, .lookup t x y true, ty, pos, after, g⟩ :: l) R ρ ds L := by
  have h := yl_lookupOk (P := P) (L := R) (ty := ty) ht hk hz hx hy hin hes
  cases hf : findI es j with
  | none => rw [hf] at h; exact RW.y h rfl (hn hf)
  | some v => rw [hf] at h; exact RW.y h rfl (hs v hf)
/-- A key is struck, in a drawn region. -/
theorem RW.mapDel {dst : Option Tmp} {t kt : TypeId} {et t2 : TypeId} {x y : Operand} {k k' : IntKind} {j : Int} {m c : Nat} {es : List MapEntry} {L' : Chunk} {g : Option (Nat × Bool)} [hg : GdT ops ρ g] [ht : Und P t (.map kt et)] [hk : Und P kt (.int k')] [hx : EvO ρ x (.map (some m))] [hy : EvO ρ y (.int k j)] [hin : InC L m (.map es.toArray c)] (hes : KV k es c)
    [hu : UpdC L m (.map (delE j es).toArray c) L'] (next : ∃ R', (∀ p ∈ R, p ∈ R') ∧ (∀ p ∈ R', p ∈ L') ∧ RW P w0 rd n ops K l R' (updO ρ dst (.tuple #[])) ds L') : RW P w0 rd n ops K (⟨dst, .call { callee := .builtin .delete, args := #[x, y], argTypes := #[t, t2] }, ty, pos, after, g⟩ :: l) R ρ ds L :=
  RW.eff hg.out (by rfl) (ef_delete ht hk hx hy hin hes hu) (fun v L'' ⟨h1, h2⟩ => by subst h1 h2; exact next) (fun _ _ h => h.elim)
end
end Go.Pw

namespace Go.Pw.Md
def overK (a : Int) (bs : List Int) (ad k : Int) (b : List Int) : List Int := b.zipIdx.map fun x => if a ≤ ad + (x.2 : Int) ∧ ad + (x.2 : Int) < k then bs.getD (ad + x.2 - a).toNat 0 else x.1
def agreesK (a : Int) (bs : List Int) (ad k : Int) (b : List Int) : Prop := ∀ d : Nat, d < b.length → a ≤ ad + (d : Int) → ad + (d : Int) < k → b.getD d 0 = -1 ∨ b.getD d 0 = bs.getD (ad + d - a).toNat 0
instance (a : Int) (bs : List Int) (ad k : Int) (b : List Int) : Decidable (agreesK a bs ad k b) := by unfold agreesK; infer_instance
theorem overK_len (a : Int) (bs : List Int) (ad k : Int) (b : List Int) : (overK a bs ad k b).length = b.length := by simp [overK]
theorem overK_get {a : Int} {bs : List Int} {ad k : Int} {b : List Int} {d : Nat} (hd : d < b.length) : (overK a bs ad k b)[d]? = some (if a ≤ ad + (d : Int) ∧ ad + (d : Int) < k then bs.getD (ad + d - a).toNat 0 else b[d]) := by
  simp [overK, List.getElem?_zipIdx, List.getElem?_eq_getElem hd]
theorem overK_same {a : Int} {bs : List Int} {ad k : Int} {b : List Int} (h : ∀ d : Nat, d < b.length → ¬ (a ≤ ad + (d : Int) ∧ ad + (d : Int) < k)) : overK a bs ad k b = b := by
  apply List.ext_getElem?
  intro d
  by_cases hd : d < b.length
  · rw [overK_get hd, if_neg (h d hd), List.getElem?_eq_getElem hd]
  · rw [List.getElem?_eq_none (by rw [overK_len]; omega), List.getElem?_eq_none (by omega)]
theorem overK_start {a : Int} {bs : List Int} {ad : Int} {b : List Int} : overK a bs ad (max a ad) b = b := overK_same fun d _ h => by omega
theorem over_eq {a : Int} {bs : List Int} {p : Pc} : (over a bs p).b = overK a bs p.ad (a + bs.length) p.b := rfl
theorem overK_end {a : Int} {bs : List Int} {p : Pc} (hl : (p.b.length : Int) = p.room) : overK a bs p.ad (min (a + bs.length) (p.ad + p.room)) p.b = (over a bs p).b := by
  rw [over_eq]
  apply List.ext_getElem?
  intro d
  by_cases hd : d < p.b.length
  · rw [overK_get hd, overK_get hd]
    congr 1
    by_cases hc : a ≤ p.ad + (d : Int) ∧ p.ad + (d : Int) < a + bs.length
    · rw [if_pos hc, if_pos (by omega)]
    · rw [if_neg hc, if_neg (by omega)]
  · rw [List.getElem?_eq_none (by rw [overK_len]; omega), List.getElem?_eq_none (by rw [overK_len]; omega)]
theorem overK_step {a : Int} {bs : List Int} {ad k : Int} {b : List Int} (h1 : a ≤ k) (h2 : ad ≤ k) (h3 : k < ad + b.length) : overK a bs ad (k + 1) b = (overK a bs ad k b).set (k - ad).toNat (bs.getD (k - a).toNat 0) := by
  apply List.ext_getElem?
  intro d
  rw [List.getElem?_set]
  by_cases hd : d < b.length
  · rw [overK_get hd]
    by_cases hk : (k - ad).toNat = d
    · rw [if_pos hk, if_pos (by omega), if_pos (by rw [overK_len]; omega)]
      congr 2
      omega
    · rw [if_neg hk, overK_get hd]
      congr 1
      by_cases hc : a ≤ ad + (d : Int) ∧ ad + (d : Int) < k
      · rw [if_pos hc, if_pos (by omega)]
      · rw [if_neg hc, if_neg (by omega)]
  · rw [List.getElem?_eq_none (by rw [overK_len]; omega), if_neg (by omega), List.getElem?_eq_none (by rw [overK_len]; omega)]
theorem overK_old {a : Int} {bs : List Int} {ad k : Int} {b : List Int} {d : Nat} (hd : d < b.length) (hk : (d : Int) = k - ad) : (overK a bs ad k b)[d]? = some b[d] := by
  rw [overK_get hd, if_neg (by omega)]
theorem over_none {a : Int} {bs : List Int} {p : Pc} (hl : (p.b.length : Int) = p.room) (h : min (a + bs.length) (p.ad + p.room) ≤ max a p.ad) : over a bs p = p := by
  have e : (over a bs p).b = p.b := by
    rw [over_eq]
    exact overK_same fun d hd hc => by omega
  have : over a bs p = { p with b := (over a bs p).b } := rfl
  rw [this, e]
theorem agreesK_start {a : Int} {bs : List Int} {ad : Int} {b : List Int} : agreesK a bs ad (max a ad) b := fun d _ h1 h2 => by omega
theorem agreesK_end {a : Int} {bs : List Int} {p : Pc} (hl : (p.b.length : Int) = p.room) : agreesK a bs p.ad (min (a + bs.length) (p.ad + p.room)) p.b ↔ agrees a bs p :=
  ⟨fun h d hd h1 h2 => h d hd h1 (by omega), fun h d hd h1 h2 => h d hd h1 (by omega)⟩
theorem agrees_none {a : Int} {bs : List Int} {p : Pc} (hl : (p.b.length : Int) = p.room) (h : min (a + bs.length) (p.ad + p.room) ≤ max a p.ad) : agrees a bs p := fun d hd h1 h2 => by omega
theorem agreesK_step {a : Int} {bs : List Int} {ad k : Int} {b : List Int} (h1 : a ≤ k) (h2 : ad ≤ k) {d : Nat} (hd : d < b.length) (hk : (d : Int) = k - ad) :
    agreesK a bs ad (k + 1) b ↔ agreesK a bs ad k b ∧ (b[d] = -1 ∨ b[d] = bs.getD (k - a).toNat 0) := by
  have hb : b.getD d 0 = b[d] := by rw [List.getD_eq_getElem?_getD, List.getElem?_eq_getElem hd]; rfl
  constructor
  · intro h
    refine ⟨fun e he h1 h2 => h e he h1 (by omega), ?_⟩
    have := h d hd (by omega) (by omega)
    rw [hb, show ad + (d : Int) - a = k - a by omega] at this
    exact this
  · rintro ⟨h, h3⟩ e he g1 g2
    by_cases hed : e = d
    · subst hed
      rw [hb, show ad + (e : Int) - a = k - a by omega]
      exact h3
    · exact h e he g1 (by omega)
end Go.Pw.Md

namespace Go.Pw
open Go.Sort
section
variable {P : Program} {w0 : World} {rd : Option Nat} {n : Nat} {K : Post} {ρ : Env} {ds : List Deferred} {L R : Chunk} {l : List Oper} {ops : Array Oper} {ty : TypeId} {d : Nat} {pos : String} {after : Array Edge}
theorem yl_indexStr {t : TypeId} {x i : Operand} {kk : IntKind} {j : Int} {s : ByteArray} {b : UInt8} (ht : Und P t .string) (hx : EvO ρ x (.string s)) (hi : EvO ρ i (.int kk j)) (h0 : 0 ≤ j) (hb : s[j.toNat]? = some b) : Yl P ρ L (.index t x i) ty (.int .u8 b.toNat) :=
  yl_of_run (fun c h => (by cases h)) fun w o ho _ _ => by
    unfold execOp
    simp [ho, hx.out, hi.out, Instr.index, asIntOf, run_underlying ht.out, h0, hb]
def lenTab (s : ByteArray) : Bool := (List.range 256).all fun i => (s[i]?).map UInt8.toNat == some (bitsLen i)
theorem bitsLen_small {n : Nat} (h : n < 256) : bitsLen n ≤ 8 := (bitsLen_le_iff n 8).2 h
theorem OW.ixLen {t : TypeId} {x i : Operand} {kk : IntKind} {j : Int} {s : ByteArray} [ht : Und P t .string] [hx : EvO ρ x (.string s)] [hi : EvO ρ i (.int kk j)] (htab : lenTab s = true) (h : 0 ≤ j ∧ j < 256)
    (next : ∀ r : Nat, r = bitsLen j.toNat → r ≤ 8 → OW P w0 rd n ops K l (upd ρ d (.int .u8 (r : Int))) ds L) : OW P w0 rd n ops K (⟨some d, .index t x i, ty, pos, after, none⟩ :: l) ρ ds L := by
  have h1 := List.all_eq_true.1 htab j.toNat (List.mem_range.2 (by omega))
  rw [beq_iff_eq] at h1
  cases hb : s[j.toNat]? with
  | none => rw [hb] at h1; cases h1
  | some b =>
    rw [hb] at h1
    simp only [Option.map_some, Option.some.injEq] at h1
    have := OW.y (P := P) (ty := ty) (pos := pos) (after := after) (yl_indexStr ht hx hi h.1 hb) (next b.toNat h1 (by rw [h1]; exact bitsLen_small (by omega)))
    exact this
end
theorem bl_shift {n k : Nat} (h : 2 ^ k ≤ n) : bitsLen n = k + bitsLen (n / 2 ^ k) := by
  have hk : 0 < 2 ^ k := Nat.pow_pos (by decide)
  apply Nat.le_antisymm
  · rw [bitsLen_le_iff, Nat.pow_add, Nat.mul_comm]
    exact (Nat.div_lt_iff_lt_mul hk).1 (lt_two_pow_bitsLen _)
  · have h1 := lt_two_pow_bitsLen n
    have hkn : k ≤ bitsLen n := by
      rcases Nat.lt_or_ge (bitsLen n) k with hlt | hge
      · have := Nat.pow_lt_pow_right (a := 2) (by decide) hlt
        omega
      · exact hge
    have : bitsLen (n / 2 ^ k) ≤ bitsLen n - k := by
      rw [bitsLen_le_iff, Nat.div_lt_iff_lt_mul hk, ← Nat.pow_add, Nat.sub_add_cancel hkn]
      exact h1
    omega
theorem shrK {x : Int} (k : Nat) (hk : k ≤ 64) : shrV .u64 x (k : Int) = x / ((2 ^ k : Nat) : Int) := by
  unfold shrV
  have e : min (k : Int).toNat IntKind.u64.bits = k := by
    have : (k : Int).toNat = k := by omega
    rw [this]; show min k 64 = k; omega
  rw [e, Int.fdiv_eq_ediv_of_nonneg _ (Int.pow_nonneg (by decide))]
  simp
/-- What a number is behind a mask. -/
class AnN (a b : Int) (m : outParam Int) : Prop where out : bitsV .and .u64 a b = m
section
variable {P : Program} {ρ : Env} {L : Chunk} {ty : TypeId}
instance (priority := high) op1AndN {t yt : TypeId} {x y : Operand} {a b m : Int} [hx : EvO ρ x (.int .u64 a)] [hy : EvO ρ y (.int .u64 b)] [hm : AnN a b m] : Op1 P ρ L (.binOp .and t x y yt) ty (.int .u64 m) := ⟨by
  rw [← hm.out]
  exact (op1And (P := P) (ρ := ρ) (L := L) (ty := ty) (t := t) (yt := yt) (x := x) (y := y) (k := .u64) (a := a) (b := b)).yl⟩
end
/-- What a number is behind a shift. -/
class ShN (a b : Int) (m : outParam Int) : Prop where out : shrV .u64 a b = m
section
variable {P : Program} {ρ : Env} {L : Chunk} {ty : TypeId}
instance (priority := high) op1ShrN {t yt : TypeId} {x y : Operand} {k' : IntKind} {a b m : Int} [hx : EvO ρ x (.int .u64 a)] [hy : EvO ρ y (.int k' b)] [h : NN b] [hm : ShN a b m] : Op1 P ρ L (.binOp .shr t x y yt) ty (.int .u64 m) := ⟨by
  rw [← hm.out]
  exact yl_shr hx hy h.out⟩
end
theorem u64_bits (x : UInt64) : BitVec.ofInt 64 (x.toNat : Int) = x.toBitVec := by
  apply BitVec.eq_of_toNat_eq
  rw [BitVec.ofInt_natCast, BitVec.toNat_ofNat]
  exact Nat.mod_eq_of_lt x.toNat_lt
theorem xor_u64 (x y : UInt64) : bitsV .xor .u64 (x.toNat : Int) (y.toNat : Int) = ((x ^^^ y).toNat : Int) := by
  have e : bitsV .xor .u64 (x.toNat : Int) (y.toNat : Int) = IntKind.u64.wrap ((BitVec.ofInt 64 (x.toNat : Int) ^^^ BitVec.ofInt 64 (y.toNat : Int)).toNat : Int) := rfl
  have h : (x.toBitVec ^^^ y.toBitVec).toNat = (x ^^^ y).toNat := rfl
  have h2 := (x ^^^ y).toNat_lt
  rw [e, u64_bits, u64_bits, h, wrap_in (k := .u64) (by constructor <;> omega)]
theorem shl_u64 (x : UInt64) (k : Nat) (hk : k < 64) : shlV .u64 (x.toNat : Int) (k : Int) = ((x <<< UInt64.ofNat k).toNat : Int) := by
  unfold shlV
  have e : min (k : Int).toNat IntKind.u64.bits = k := by
    have : (k : Int).toNat = k := by omega
    rw [this]; show min k 64 = k; omega
  rw [e, UInt64.toNat_shiftLeft, UInt64.toNat_ofNat', Nat.shiftLeft_eq]
  have e2 : k % 2 ^ 64 % 64 = k := by omega
  rw [e2]
  have e3 : IntKind.u64.wrap ((x.toNat : Int) * 2 ^ k) = ((x.toNat : Int) * 2 ^ k) % 18446744073709551616 := by simp [IntKind.wrap, IntKind.bits, IntKind.signed]
  rw [e3]
  simp
theorem shr_u64 (x : UInt64) (k : Nat) (hk : k < 64) : shrV .u64 (x.toNat : Int) (k : Int) = ((x >>> UInt64.ofNat k).toNat : Int) := by
  rw [shrK k (by omega), UInt64.toNat_shiftRight, UInt64.toNat_ofNat', Nat.shiftRight_eq_div_pow]
  have e2 : k % 2 ^ 64 % 64 = k := by omega
  rw [e2]
  simp
theorem mask_u64 (x : UInt64) (k : Nat) (hk : k ≤ 63) : bitsV .and .u64 (x.toNat : Int) ((2 ^ k - 1 : Nat) : Int) = ((x.toNat &&& (2 ^ k - 1) : Nat) : Int) := by
  have ha := x.toNat_lt
  have hm : 2 ^ k - 1 < 2 ^ 64 := by have : 2 ^ k ≤ 2 ^ 63 := Nat.pow_le_pow_right (by decide) hk; omega
  have e2 : BitVec.ofInt 64 ((2 ^ k - 1 : Nat) : Int) = BitVec.ofNat 64 (2 ^ k - 1) := BitVec.ofInt_natCast 64 _
  have e4 : bitsV .and .u64 (x.toNat : Int) ((2 ^ k - 1 : Nat) : Int) = IntKind.u64.wrap ((BitVec.ofInt 64 (x.toNat : Int) &&& BitVec.ofInt 64 ((2 ^ k - 1 : Nat) : Int)).toNat : Int) := rfl
  have e3 : (x.toBitVec &&& BitVec.ofNat 64 (2 ^ k - 1)).toNat = x.toNat &&& (2 ^ k - 1) := by
    rw [BitVec.toNat_and, BitVec.toNat_ofNat, Nat.mod_eq_of_lt hm]; rfl
  have h5 : x.toNat &&& (2 ^ k - 1) ≤ x.toNat := Nat.and_le_left
  rw [e4, u64_bits, e2, e3, wrap_in (k := .u64) (by constructor <;> omega)]
end Go.Pw

namespace Go.Pw
section
variable {P : Program} {w0 : World} {rd : Option Nat} {n : Nat} {K : Post} {ρ : Env} {ds : List Deferred} {L : Chunk} {l : List Oper} {ops : Array Oper}
/-- What holds behind this code, however it went. -/
theorem CW.cut {c : Code} (E : Env → List Deferred → Chunk → Prop) (next : ∀ ρ ds L, E ρ ds L → K .normal ρ ds L) (h : CW P w0 rd n c (thenK E K) ρ ds L) : CW P w0 rd n c K ρ ds L :=
  CW.mono h fun e ρ ds L h => by
    cases e with
    | normal => exact next ρ ds L h
    | _ => exact h
/-- What holds behind this region, however it went. -/
theorem OW.cutK {N : Env → List Deferred → Chunk → Prop} (E : Env → List Deferred → Chunk → Prop) (next : ∀ ρ ds L, E ρ ds L → N ρ ds L)
    (h : ∀ N' : Env → List Deferred → Chunk → Prop, (∀ ρ ds L, E ρ ds L → N' ρ ds L) → OW P w0 rd n ops (thenK N' K) l ρ ds L) : OW P w0 rd n ops (thenK N K) l ρ ds L := h N next
end
end Go.Pw

namespace Go.Pw
section
variable {P : Program} {w0 : World} {rd : Option Nat} {nt : Nat} {K : Post} {ρ : Env} {ds : List Deferred} {L R : Chunk} {l : List Oper} {ops : Array Oper} {ty : TypeId} {d : Nat} {pos : String} {after : Array Edge}
def FldT (P : Program) (s : TypeId) (i : Nat) (ft : TypeId) (off : Nat) : Prop := ∃ fs f, P.underlying s = some (.struct fs) ∧ fs[i]? = some f ∧ f.type = ft ∧ f.offset = off
theorem run_partAgg {w : World} {t : TypeId} {l l' : List Value} {k n : Nat} (ha : Agg P t true) (hz : Siz P t n) (h : CutL l k n l') : (part t l.toArray k).run P w = .ok (.agg l'.toArray) w := by
  have h1 := h.out.1
  have h2 := h.out.2
  have h3 : l.toArray.extract k (k + n) = l'.toArray := by
    apply Array.ext'
    simp [← h2, List.take_drop]
  unfold part
  simp only [Sem.run_bind, ha.out, hz.out, Result.andThen_ok, if_true, Sem.run_pure, Sem.run_ite]
  first
    | rw [h3]
    | (rw [if_pos (by simpa using h1), h3])
    | simp [h3, h1]
theorem yl_fieldAgg {s ft : TypeId} {x : Operand} {i off n : Nat} {l l' : List Value} (hs : FldT P s i ft off) (hz : Siz P ft n) (ha : Agg P ft true) (hx : EvO ρ x (.agg l.toArray)) (hc : CutL l off n l') : Yl P ρ L (.field s x i) ty (.agg l'.toArray) :=
  yl_of_run (fun c h => (by cases h)) fun w o ho _ _ => by
    obtain ⟨fs, f, h1, h2, h3, h4⟩ := hs
    subst h3
    subst h4
    have hp := run_partAgg (P := P) (w := w) ha hz hc
    unfold execOp
    simp [ho, hx.out, Instr.field, run_underlying h1, h2, asAgg, hp]
theorem OW.fieldA {s ft : TypeId} {x : Operand} {i off n : Nat} {l0 l' : List Value} (hs : FldT P s i ft off) [hz : Siz P ft n] [ha : Agg P ft true] [hx : EvO ρ x (.agg l0.toArray)] [hc : CutL l0 off n l']
    (next : OW P w0 rd nt ops K l (upd ρ d (.agg l'.toArray)) ds L) : OW P w0 rd nt ops K (⟨some d, .field s x i, ty, pos, after, none⟩ :: l) ρ ds L := OW.y (yl_fieldAgg hs hz ha hx hc) next
end
end Go.Pw

namespace Go.Pw
section
variable {P : Program} {ρ : Env} {L : Chunk} {ty : TypeId}
theorem ef_grow {t t2 e : TypeId} {s bytes n cap m : Nat} {x y : Operand} {base : Option Addr} {u : Value} {xs news : List Value} {z : Value} {zs : List Value}
    (ht : Und P t (.slice e)) (ht2 : Und P t2 (.slice e)) (hz : Siz P e s) (hzv : Zer P e z) (hzc : CellsL z zs) (hzl : zs.length = s) (hby : Byt P e bytes) (hbp : 0 < bytes)
    (hx : EvO ρ x (.slice base n cap)) (hy : EvO ρ y u) (hrd : Rd L s u m news) (hbase : Rd L s (.slice base n cap) n xs) (hcap : cap < n + m) (hfit : (n + m) * bytes ≤ 140737488355328) :
    Ef P ρ L (.call { callee := .builtin .append, args := #[x, y], argTypes := #[t, t2] }) ty (fun v' L' => ∃ N', L' = N' ++ L ∧ Row e s N' v' (n + m) (xs ++ news)) noPanic := by
  refine ⟨fun c h => (by cases h), fun w0 w rd a next Q o ho hty ha hst hn _ => ?_⟩
  have hnm : n + m ≤ 140737488355328 := Nat.le_trans (Nat.le_mul_of_pos_right _ hbp) hfit
  have hlen : (xs ++ news).length = (n + m) * s := by rw [List.length_append, hbase.1, hrd.1, Nat.add_mul]
  obtain ⟨i, hi, hib⟩ := hby.out
  have hti : ∀ w, (typeInfo e).run P w = .ok i w := fun w => by simp [typeInfo, hi]
  have hunfold : ∀ r, (Builtin.append_ #[t, t2] o.type #[.slice base n cap, u]).run P w = r → (execOp (ev ρ) o).run P w = r.andThen fun v w' => .ok (.value v) w' := fun r hr => by
    unfold execOp
    simp only [ho, resolve, invoke, builtin, Sem.run_bind, Sem.run_pure, Result.andThen_ok, List.map_toArray, List.map_cons, List.map_nil, hx.out, hy.out, hr]
  have hlenu := lenOf_rd (P := P) (w := w) hrd
  have hpd : Pn w.drew L := hst.pn
  have hcellsD := run_firstCells_rd (P := P) hrd hpd
  have holdD := run_firstCells_rd (P := P) hbase hpd
  have hn1 : ¬ (n + m ≤ cap) := by omega
  have hn2 : ¬ ((9223372036854775807 : Int) < (n : Int) + (m : Int) ∧ i.bytes = 0) := by omega
  have hn3 : ¬ (281474976710656 < Builtin.nextslicecap (n + m) cap * i.bytes) := by
    have := growslice_fits hcap (by rw [hib]; exact hfit : (n + m) * i.bytes ≤ 140737488355328); omega
  have hK : n + m ≤ grownCap w (n + m) cap e := grownCap_ge w _ _ _
  have hrun : (Builtin.append_ #[t, t2] o.type #[.slice base n cap, u]).run P w = .ok (.slice (some ⟨w.heap.size, 0, none⟩) (n + m) (grownCap w (n + m) cap e))
      (w.drew.alloc (.cells (xs.toArray ++ (news.toArray ++ Builtin.zeroCells z.cells (grownCap w (n + m) cap e - (n + m)))) e)) := by
    unfold Builtin.append_
    simp [run_underlying ht.out, run_underlying ht2.out, hz.out, hlenu, hn1, hti, hn2, hn3, choose, Sem.run, Question.forced, askRoom, newRow, newObj]
    simp [holdD, hcellsD, hzv.out, grownCap]
  rw [hunfold _ hrun]
  refine hn _ _ ([(w.heap.size, .cells (xs.toArray ++ (news.toArray ++ Builtin.zeroCells z.cells (grownCap w (n + m) cap e - (n + m)))) e (0, 0))] ++ L) ?_ ⟨_, rfl, hlen, .inr ⟨w.heap.size, grownCap w (n + m) cap e, (Builtin.zeroCells z.cells (grownCap w (n + m) cap e - (n + m))).toList, rfl, ?_, hK, ?_⟩⟩
  · exact St.alloc (w := w.drew) hst.drew _
  · simp
  · rw [List.length_append, hlen, hzc.out, Array.length_toList, length_zeroCells, hzl, ← Nat.add_mul]
    congr 1
    omega
theorem ef_append0 {t t2 e : TypeId} {s bytes m : Nat} {x y : Operand} {base : Option Addr} {u : Value} {news : List Value} {z : Value} {zs : List Value}
    (ht : Und P t (.slice e)) (ht2 : Und P t2 (.slice e)) (hz : Siz P e s) (hzv : Zer P e z) (hzc : CellsL z zs) (hzl : zs.length = s) (hby : Byt P e bytes) (hbp : 0 < bytes)
    (hx : EvO ρ x (.slice base 0 0)) (hy : EvO ρ y u) (hrd : Rd L s u m news) (hfit : m * bytes ≤ 140737488355328) :
    Ef P ρ L (.call { callee := .builtin .append, args := #[x, y], argTypes := #[t, t2] }) ty (fun v' L' => (m = 0 ∧ v' = .slice base 0 0 ∧ L' = L) ∨ (m ≠ 0 ∧ ∃ N', L' = N' ++ L ∧ Row e s N' v' m news)) noPanic := by
  have hbase : Rd L s (.slice base 0 0) 0 [] := ⟨by simp, .inl ⟨⟨_, _, rfl⟩, rfl⟩⟩
  by_cases hm : m = 0
  · refine ⟨fun c h => (by cases h), fun w0 w rd a next Q o ho hty ha hst hn _ => ?_⟩
    subst hm
    have hnews : news = [] := List.eq_nil_of_length_eq_zero (by simpa using hrd.1)
    subst hnews
    have hlenu := lenOf_rd (P := P) (w := w) hrd
    have hcells := run_firstCells_rd (P := P) hrd hst.pn
    have hrun : (Builtin.append_ #[t, t2] o.type #[.slice base 0 0, u]).run P w = .ok (.slice base 0 0) w := by
      unfold Builtin.append_
      cases base with
      | none => simp [run_underlying ht.out, run_underlying ht2.out, hz.out, hlenu, hcells]
      | some ad => simp [run_underlying ht.out, run_underlying ht2.out, hz.out, hlenu, hcells, storeCells]
    unfold execOp
    simp only [ho, resolve, invoke, builtin, Sem.run_bind, Sem.run_pure, Result.andThen_ok, List.map_toArray, List.map_cons, List.map_nil, hx.out, hy.out, hrun]
    exact hn _ w L hst (.inl ⟨rfl, rfl, rfl⟩)
  · have h := ef_grow (P := P) (ty := ty) ht ht2 hz hzv hzc hzl hby hbp hx hy hrd hbase (by omega) (by simpa using hfit)
    refine ⟨h.1, fun w0 w rd a next Q o ho hty ha hst hn hp => h.2 w0 w rd a next Q o ho hty ha hst (fun v w' L' hs h => hn v w' L' hs (.inr ⟨hm, ?_⟩)) hp⟩
    obtain ⟨N', h1, h2⟩ := h
    exact ⟨N', h1, by simpa using h2⟩
variable {w0 : World} {rd : Option Nat} {nt : Nat} {K : Post} {ds : List Deferred} {R : Chunk} {ops : Array Oper} {l : List Oper} {d : Nat} {pos : String} {after : Array Edge}
theorem RW.append0 {t t2 e : TypeId} {s bytes m : Nat} {x y : Operand} {base : Option Addr} {u : Value} {news : List Value} {z : Value} {zs : List Value} {g : Option (Nat × Bool)}
    [hg : GdT ops ρ g] [hx : EvO ρ x (.slice base 0 0)] [hy : EvO ρ y u] [ht : Und P t (.slice e)] [ht2 : Und P t2 (.slice e)] [hz : Siz P e s] [hzv : Zer P e z] [hzc : CellsL z zs] [hzl : LenL zs s] [hby : Byt P e bytes] [hbp : NeNat bytes 0]
    (hrd : Rd L s u m news) (hfit : m * bytes ≤ 140737488355328)
    (h0 : m = 0 → ∃ R', (∀ p ∈ R, p ∈ R') ∧ (∀ p ∈ R', p ∈ L) ∧ RW P w0 rd nt ops K l R' (upd ρ d (.slice base 0 0)) ds L)
    (h1 : ∀ v' N', m ≠ 0 → Row e s N' v' m news → ∃ R', (∀ p ∈ R, p ∈ R') ∧ (∀ p ∈ R', p ∈ N' ++ L) ∧ RW P w0 rd nt ops K l R' (upd ρ d v') ds (N' ++ L)) :
    RW P w0 rd nt ops K (⟨some d, .call { callee := .builtin .append, args := #[x, y], argTypes := #[t, t2] }, ty, pos, after, g⟩ :: l) R ρ ds L :=
  RW.eff hg.out rfl (ef_append0 ht ht2 hz hzv hzc hzl.out hby (Nat.pos_of_ne_zero hbp.ne) hx hy hrd hfit) (fun v' L' h => by
    rcases h with ⟨hm, rfl, rfl⟩ | ⟨hm, N', rfl, hrow⟩
    · exact h0 hm
    · exact h1 v' N' hm hrow) (fun _ _ h => h.elim)
theorem CW.cutB {c : Code} {id : Nat} {N : Env → List Deferred → Chunk → Prop} (E : Env → List Deferred → Chunk → Prop) (next : ∀ ρ ds L, E ρ ds L → N ρ ds L)
    (h : ∀ N' : Env → List Deferred → Chunk → Prop, (∀ ρ ds L, E ρ ds L → N' ρ ds L) → CW P w0 rd nt c (blockK id (thenK N' K)) ρ ds L) : CW P w0 rd nt c (blockK id (thenK N K)) ρ ds L := h N next
theorem CW.cutK {c : Code} {N : Env → List Deferred → Chunk → Prop} (E : Env → List Deferred → Chunk → Prop) (next : ∀ ρ ds L, E ρ ds L → N ρ ds L)
    (h : ∀ N' : Env → List Deferred → Chunk → Prop, (∀ ρ ds L, E ρ ds L → N' ρ ds L) → CW P w0 rd nt c (thenK N' K) ρ ds L) : CW P w0 rd nt c (thenK N K) ρ ds L := h N next
end
end Go.Pw
namespace Go.Pw
/-- What was known lies behind. -/
class Sfx (L' L : Chunk) : Prop where out : ∃ X, L' = X ++ L
instance (priority := high) sfxRefl {L : Chunk} : Sfx L L := ⟨[], rfl⟩
instance sfxCons {L L' : Chunk} {p : Nat × Obj} [h : Sfx L' L] : Sfx (p :: L') L := ⟨let ⟨X, e⟩ := h.out; ⟨p :: X, by rw [e]; rfl⟩⟩
instance sfxApp {L L' N : Chunk} [h : Sfx L' L] : Sfx (N ++ L') L := ⟨let ⟨X, e⟩ := h.out; ⟨N ++ X, by rw [e, List.append_assoc]⟩⟩
end Go.Pw

namespace Go.Pw.Md

theorem ads_ne {l : List Pc} (hl : l.Pairwise fun p q => p.ad + p.room ≤ q.ad) (hok : ∀ p ∈ l, PcOk p) : l.Pairwise fun p q => p.ad < q.ad := by
  refine List.Pairwise.imp_of_mem (fun {p q} hp hq h => ?_) hl
  have := (hok p hp).room
  omega
theorem WF.rise {m : Mod} (h : WF m) : m.L.Pairwise fun p q => p.ad < q.ad := ads_ne h.apart h.ok
theorem filter_split {A B : List Pc} {p : Pc} (h : (A ++ p :: B).Pairwise fun p q => p.ad < q.ad) : (A ++ p :: B).filter (fun q => decide (q.ad ≠ p.ad)) = A ++ B := by
  rw [List.pairwise_append, List.pairwise_cons] at h
  rw [List.filter_append, List.filter_cons_of_neg (by simp), List.filter_eq_self.2, List.filter_eq_self.2]
  · intro q hq
    have := h.2.1.1 q hq
    simp only [decide_eq_true_eq]; omega
  · intro q hq
    have := h.2.2 q hq p (List.mem_cons_self ..)
    simp only [decide_eq_true_eq]; omega
theorem split_at {l : List Pc} {i : Nat} (hi : i < l.length) : l = l.take i ++ l[i] :: l.drop (i + 1) := by
  rw [← List.drop_eq_getElem_cons hi, List.take_append_drop]
/-- Without the piece of a place. -/
theorem without_at {m : Mod} (h : WF m) {i : Nat} (hi : i < m.L.length) : m.without m.L[i].ad = { m with L := m.L.take i ++ m.L.drop (i + 1) } := by
  unfold Mod.without
  congr 1
  have h1 := h.rise
  have h2 := split_at hi
  generalize m.L.take i = A at *
  generalize m.L.drop (i + 1) = B at *
  generalize m.L[i] = p at *
  rw [h2] at h1 ⊢
  exact filter_split h1

theorem ins_last {p : Pc} : ∀ {l : List Pc}, (∀ q ∈ l, ¬ p.ad < q.ad) → ins p l = l ++ [p]
  | [], _ => rfl
  | q :: l, h => by
    unfold ins
    rw [if_neg (h q (List.mem_cons_self ..)), ins_last fun r hr => h r (List.mem_cons_of_mem _ hr)]
    rfl
theorem ins_mid {p q : Pc} {B : List Pc} (hq : p.ad < q.ad) : ∀ {A : List Pc}, (∀ q ∈ A, ¬ p.ad < q.ad) → ins p (A ++ q :: B) = A ++ p :: q :: B
  | [], _ => by simp [ins, hq]
  | r :: A, h => by
    rw [List.cons_append, ins, if_neg (h r (List.mem_cons_self ..)), ins_mid hq fun r hr => h r (List.mem_cons_of_mem _ hr)]
    rfl
theorem ins_app {p : Pc} {B : List Pc} : ∀ {A : List Pc}, (∃ q ∈ A, p.ad < q.ad) → ins p (A ++ B) = ins p A ++ B
  | [], h => by obtain ⟨_, h, _⟩ := h; cases h
  | r :: A, h => by
    rw [List.cons_append, ins, ins]
    split
    · rfl
    · rename_i h1
      rw [ins_app (by
        obtain ⟨q, hq, h2⟩ := h
        rcases List.mem_cons.1 hq with rfl | hq
        · exact absurd h2 h1
        · exact ⟨q, hq, h2⟩)]
      rfl
/-- A piece of another size put in again. -/
theorem ins_map {m : Mod} (h : WF m) {i : Nat} (hi : i < m.L.length) (s : Int) : ins { m.L[i] with size := s } (m.without m.L[i].ad).L = m.L.map fun q => if q.ad = m.L[i].ad then { q with size := s } else q := by
  rw [without_at h hi]
  simp only
  have h1 := h.rise
  have h2 := split_at hi
  generalize m.L.take i = A at *
  generalize m.L.drop (i + 1) = B at *
  generalize m.L[i] = p at *
  rw [h2] at h1 ⊢
  rw [List.pairwise_append, List.pairwise_cons] at h1
  have hA : ∀ q ∈ A, q.ad < p.ad := fun q hq => h1.2.2 q hq p (List.mem_cons_self ..)
  have hB := h1.2.1.1
  rw [List.map_append, List.map_cons, if_pos rfl]
  have eA : A.map (fun q => if q.ad = p.ad then { q with size := s } else q) = A := by
    conv => rhs; rw [← List.map_id A]
    exact List.map_congr_left fun q hq => by rw [if_neg (by have := hA q hq; omega)]; rfl
  have eB : B.map (fun q => if q.ad = p.ad then { q with size := s } else q) = B := by
    conv => rhs; rw [← List.map_id B]
    exact List.map_congr_left fun q hq => by rw [if_neg (by have := hB q hq; omega)]; rfl
  rw [eA, eB]
  cases B with
  | nil =>
    rw [List.append_nil]
    exact ins_last fun q hq => by have := hA q hq; simp only; omega
  | cons q B =>
    exact ins_mid (by have := hB q (List.mem_cons_self ..); simp only; omega) fun q hq => by have := hA q hq; simp only; omega

/-- Pieces, with so many of the bytes laid over them. -/
def upto (a : Int) (bs : List Int) (k : Int) (p : Pc) : Pc := { p with b := overK a bs p.ad (a + k) p.b }
theorem upto_zero (a : Int) (bs : List Int) (p : Pc) : upto a bs 0 p = p := by
  have : (upto a bs 0 p).b = p.b := overK_same fun d _ h => by omega
  have e : upto a bs 0 p = { p with b := (upto a bs 0 p).b } := rfl
  rw [e, this]
theorem upto_all (a : Int) (bs : List Int) (p : Pc) : upto a bs bs.length p = over a bs p := rfl
theorem upto_out {a : Int} {bs : List Int} {k : Int} {p : Pc} (h : ¬ (p.ad ≤ a + k ∧ a + k < p.ad + p.b.length)) : upto a bs (k + 1) p = upto a bs k p := by
  have : (upto a bs (k + 1) p).b = (upto a bs k p).b := by
    show overK a bs p.ad (a + (k + 1)) p.b = overK a bs p.ad (a + k) p.b
    apply List.ext_getElem?
    intro d
    by_cases hd : d < p.b.length
    · rw [overK_get hd, overK_get hd]
      congr 1
      by_cases hc : a ≤ p.ad + (d : Int) ∧ p.ad + (d : Int) < a + k
      · rw [if_pos hc, if_pos (by omega)]
      · rw [if_neg hc, if_neg (by omega)]
    · rw [List.getElem?_eq_none (by rw [overK_len]; omega), List.getElem?_eq_none (by rw [overK_len]; omega)]
  have e : upto a bs (k + 1) p = { upto a bs k p with b := (upto a bs (k + 1) p).b } := rfl
  rw [e, this]
theorem upto_in {a : Int} {bs : List Int} {k : Nat} {p : Pc} (hk : k < bs.length) (h1 : p.ad ≤ a + k) (h2 : a + k < p.ad + p.b.length) : upto a bs (k + 1) p = { p with b := (overK a bs p.ad (a + k) p.b).set (a + k - p.ad).toNat bs[k] } := by
  have := overK_step (bs := bs) (show a ≤ a + k by omega) h1 h2
  have e : upto a bs (k + 1) p = { p with b := overK a bs p.ad (a + k + 1) p.b } := by unfold upto; rw [Int.add_assoc]
  rw [e, this, show (a + (k : Int) - a).toNat = k by omega, List.getD_eq_getElem?_getD, List.getElem?_eq_getElem hk]
  rfl
theorem upto_none {m : Mod} (h : WF m) {a : Int} {bs : List Int} {k : Nat} (hn : m.inn (a + k) = none) : m.L.map (upto a bs ((k + 1 : Nat) : Int)) = m.L.map (upto a bs k) :=
  List.map_congr_left fun p hp => by
    rw [Int.natCast_add]
    exact upto_out (by have := inn_none hn p hp; have := (h.ok p hp).len; omega)
theorem upto_set {m : Mod} (h : WF m) {a : Int} {bs : List Int} {k i : Nat} (hi : i < m.L.length) (h1 : m.L[i].ad ≤ a + k) (h2 : a + k < m.L[i].ad + m.L[i].room) : m.L.map (upto a bs ((k + 1 : Nat) : Int)) = (m.L.map (upto a bs k)).set i (upto a bs ((k + 1 : Nat) : Int) m.L[i]) := by
  apply List.ext_getElem?
  intro j
  rw [List.getElem?_set, List.getElem?_map]
  by_cases hj : i = j
  · subst hj
    rw [if_pos rfl, if_pos (by simpa using hi), List.getElem?_eq_getElem hi]
    rfl
  · rw [if_neg hj, List.getElem?_map]
    by_cases hl : j < m.L.length
    · rw [List.getElem?_eq_getElem hl]
      simp only [Option.map_some]
      rw [Int.natCast_add]
      congr 1
      refine upto_out fun h3 => hj ?_
      have hok := h.ok _ (List.getElem_mem hl)
      rw [hok.len] at h3
      have h4 := apart_in h (List.getElem_mem hi) (List.getElem_mem hl) ⟨h1, h2⟩ h3
      have h5 := List.pairwise_iff_getElem.1 h.rise
      rcases Nat.lt_trichotomy i j with h6 | h6 | h6
      · have := h5 i j hi hl h6; rw [h4] at this; omega
      · exact h6
      · have := h5 j i hl hi h6; rw [h4] at this; omega
    · rw [List.getElem?_eq_none (by omega)]
      rfl
def agK (L : List Pc) (a : Int) (bs : List Int) (k : Int) : Prop := ∀ p ∈ L, agreesK a bs p.ad (a + k) p.b
theorem agK_zero (L : List Pc) (a : Int) (bs : List Int) : agK L a bs 0 := fun p _ d _ h1 h2 => by omega
theorem agK_all (L : List Pc) (a : Int) (bs : List Int) : agK L a bs bs.length ↔ ∀ p ∈ L, agrees a bs p := Iff.rfl
theorem agK_none {m : Mod} (h : WF m) {a : Int} {bs : List Int} {k : Nat} (hn : m.inn (a + k) = none) : agK m.L a bs ((k + 1 : Nat) : Int) ↔ agK m.L a bs k := by
  constructor
  · intro g p hp d hd h1 h2
    exact g p hp d hd h1 (by omega)
  · intro g p hp d hd h1 h2
    refine g p hp d hd h1 ?_
    have := inn_none hn p hp
    have := (h.ok p hp).len
    omega
theorem agK_some {m : Mod} (h : WF m) {a : Int} {bs : List Int} {k i d : Nat} (hk : k < bs.length) (hi : i < m.L.length) (hd : d < m.L[i].b.length) (he : m.L[i].ad + (d : Int) = a + k) : agK m.L a bs ((k + 1 : Nat) : Int) ↔ agK m.L a bs k ∧ (m.L[i].b[d] = -1 ∨ m.L[i].b[d] = bs[k]) := by
  have hb : bs.getD (a + (k : Int) - a).toNat 0 = bs[k] := by rw [show (a + (k : Int) - a).toNat = k by omega, List.getD_eq_getElem?_getD, List.getElem?_eq_getElem hk]; rfl
  have hok := h.ok _ (List.getElem_mem hi)
  have hl := hok.len
  have key : ∀ p ∈ m.L, p ≠ m.L[i] → (agreesK a bs p.ad (a + ((k + 1 : Nat) : Int)) p.b ↔ agreesK a bs p.ad (a + k) p.b) := fun p hp hne => by
    constructor
    · intro g d hd h1 h2
      exact g d hd h1 (by omega)
    · intro g e hd h1 h2
      refine g e hd h1 ?_
      have := (h.ok p hp).len
      rcases Classical.em (p.ad + (e : Int) = a + k) with h3 | h3
      · exact absurd (apart_in h (List.getElem_mem hi) hp (a := a + k) (by omega) (by omega)) hne
      · omega
  have hi1 := agreesK_step (bs := bs) (show a ≤ a + k by omega) (show m.L[i].ad ≤ a + k by omega) hd (by omega)
  rw [hb, Int.add_assoc, show (k : Int) + 1 = ((k + 1 : Nat) : Int) by omega] at hi1
  constructor
  · intro g
    have g1 := hi1.1 (g _ (List.getElem_mem hi))
    refine ⟨fun p hp => ?_, g1.2⟩
    by_cases hp1 : p = m.L[i]
    · rw [hp1]; exact g1.1
    · exact (key p hp hp1).1 (g p hp)
  · intro g p hp
    by_cases hp1 : p = m.L[i]
    · rw [hp1]; exact hi1.2 ⟨g.1 _ (List.getElem_mem hi), g.2⟩
    · exact (key p hp hp1).2 (g.1 p hp)
theorem agK_mono {L : List Pc} {a : Int} {bs : List Int} {k j : Int} (h : agK L a bs k) (hj : j ≤ k) : agK L a bs j := fun p hp d hd h1 h2 => h p hp d hd h1 (by omega)

/-- The place of the first that is such, or -1. -/
def PlR (f : Pc → Prop) (l : List Pc) (j : Int) : Prop := (j = -1 ∧ ∀ p ∈ l, ¬ f p) ∨ ∃ i : Nat, ∃ h : i < l.length, j = i ∧ f l[i]
/-- What the document's model tells of them. -/
theorem perm_eq {m m' : Mod} (h : WF m) (h' : WF m') (hp : m.L.Perm m'.L) : m.L = m'.L :=
  List.Perm.eq_of_pairwise (le := fun p q : Pc => p.ad < q.ad) (fun a b _ _ h1 h2 => by omega) h.rise h'.rise hp
end Go.Pw.Md

namespace Go.Pw.Md
open Go.Pw.Sc

@[reducible] def pcC (p : Pc) (v : Value) : List Value := [.int .u32 p.ad, .int .i64 p.size, .int .i64 p.room, v]
def PcR (L : Chunk) (c : List Value) (p : Pc) : Prop := ∃ v, c = pcC p v ∧ Rd L 1 v p.b.length (iv p.b)
theorem PcR.to {L L' : Chunk} [hm : MemC L L'] (c : List Value) (p : Pc) (h : PcR L c p) : PcR L' c p := let ⟨v, a, b⟩ := h; ⟨v, a, b.to⟩
/-- A list of pieces. -/
abbrev RL (L : Chunk) (v : Value) (ps : List Pc) : Prop := LS 4 PcR L v ps
theorem RL.to' {L L' : Chunk} {v : Value} {ps : List Pc} (h : RL L v ps) [hm : MemC L L'] : RL L' v ps := LS.to h (fun c a h => PcR.to c a h)
theorem LS.of_row {α : Type} {s : Nat} {R : Chunk → List Value → α → Prop} {e : TypeId} {N D L : Chunk} {v : Value} {ags : List α} {xs : List Value} (h : Row e s N v ags.length xs) (hl : LAt s (R D) xs ags) (hn : (ags.length : Int) ≤ 9223372036854775807) (hN : ∀ p ∈ N, p ∈ L) (hR : ∀ c a, R D c a → R L c a) : LS s R L v ags :=
  ⟨⟨xs, h.rd.mono hN, hl.mono hR⟩, hn⟩
@[reducible] def mV (m : Mod) (v : Value) : Value := .agg #[.int .i64 m.slot, .int .i64 m.quota, v]
/-- A model that is made: what is new lies ahead. -/
def RNew (D L : Chunk) (ps : List Pc) (v : Value) (L' : Chunk) : Prop := ∃ N, L' = N ++ L ∧ RL (N ++ D) v ps
class Pre (L' L : Chunk) (X : outParam Chunk) : Prop where out : L' = X ++ L
instance (priority := high) preRefl {L : Chunk} : Pre L L [] := ⟨rfl⟩
instance preCons {L L' X : Chunk} {p : Nat × Obj} [h : Pre L' L X] : Pre (p :: L') L (p :: X) := ⟨by rw [h.out]; rfl⟩
instance preApp {L L' X N : Chunk} [h : Pre L' L X] : Pre (N ++ L') L (N ++ X) := ⟨by rw [h.out, List.append_assoc]⟩
/-- What the document's model tells: whether that may be, and the model then. -/
def DoR (D L : Chunk) (r : Mod × Bool) (u : Value) (L' : Chunk) : Prop :=
  ∃ m' v' N, u = .tuple #[mV m' v', .bool r.2] ∧ L' = N ++ L ∧ Sng v' ∧ (r.2 = true → m' = r.1 ∧ RL (N ++ D) v' m'.L)
theorem DoR.same {D L : Chunk} {m : Mod} {v : Value} {b : Bool} (h : RL D v m.L) : DoR D L (m, b) (.tuple #[mV m v, .bool b]) L := ⟨m, v, [], rfl, rfl, h.sng, fun _ => ⟨rfl, h⟩⟩
theorem LAt.take {α : Type} {s : Nat} {R : List Value → α → Prop} : ∀ {xs : List Value} {ags : List α} (i : Nat), LAt s R xs ags → LAt s R (xs.take (i * s)) (ags.take i)
  | xs, [], i, h => by have : xs = [] := h; subst this; simp; exact rfl
  | _, _ :: _, 0, h => by simp; exact rfl
  | _, a :: ags, i + 1, ⟨c, r, e, h0, h1, h2⟩ => by
    refine ⟨c, r.take (i * s), ?_, h0, h1, LAt.take i h2⟩
    rw [e, show (i + 1) * s = c.length + i * s by rw [h0, Nat.add_mul]; omega, List.take_length_add_append]
theorem LAt.drop {α : Type} {s : Nat} {R : List Value → α → Prop} : ∀ {xs : List Value} {ags : List α} (i : Nat), LAt s R xs ags → LAt s R (xs.drop (i * s)) (ags.drop i)
  | xs, [], i, h => by have : xs = [] := h; subst this; simp; exact rfl
  | _, _ :: _, 0, h => by simpa using h
  | _, a :: ags, i + 1, ⟨c, r, e, h0, h1, h2⟩ => by
    rw [e, show (i + 1) * s = c.length + i * s by rw [h0, Nat.add_mul]; omega, ← List.drop_drop, List.drop_left]
    exact LAt.drop i h2
theorem LAt.set {α : Type} {s : Nat} {R : List Value → α → Prop} : ∀ {xs : List Value} {ags : List α} (i : Nat) {c : List Value} {a : α}, i < ags.length → LAt s R xs ags → c.length = s → R c a → LAt s R (xs.take (i * s) ++ c ++ xs.drop ((i + 1) * s)) (ags.set i a)
  | _, _ :: ts, 0, c', a', _, ⟨c, r, e, h0, h1, h2⟩, hc, hR => by
    refine ⟨c', r, ?_, hc, hR, h2⟩
    rw [e, ← h0, Nat.zero_mul, List.take_zero, List.nil_append, Nat.zero_add, Nat.one_mul, List.drop_left]
  | _, b :: ts, i + 1, c', a', hi, ⟨c, r, e, h0, h1, h2⟩, hc, hR => by
    have h3 := LAt.set i (by simpa using hi) h2 hc hR
    refine ⟨c, _, ?_, h0, h1, h3⟩
    rw [e, show (i + 1) * s = c.length + i * s by rw [h0, Nat.add_mul]; omega, List.take_length_add_append, show (i + 1 + 1) * s = c.length + (i + 1) * s by rw [h0]; simp only [Nat.add_mul]; omega, ← List.drop_drop, List.drop_left]
    simp only [List.append_assoc]
    rw [h0, show (i + 1) * s = s + i * s by rw [Nat.add_mul]; omega]
theorem find_pl {m : Mod} (h : WF m) {a j : Int} (hj : PlR (fun p => p.ad = a) m.L j) : (j = -1 ∧ m.find a = none) ∨ ∃ i : Nat, ∃ hi : i < m.L.length, j = i ∧ m.find a = some m.L[i] ∧ m.L[i].ad = a := by
  rcases hj with ⟨rfl, hn⟩ | ⟨i, hi, rfl, hf⟩
  · exact .inl ⟨rfl, List.find?_eq_none.2 fun p hp => by simpa using hn p hp⟩
  · exact .inr ⟨i, hi, rfl, by rw [← hf]; exact find_of h (List.getElem_mem hi), hf⟩
theorem inn_pl {m : Mod} (h : WF m) {a j : Int} (hj : PlR (fun p => p.ad ≤ a ∧ a < p.ad + p.room) m.L j) : (j = -1 ∧ m.inn a = none) ∨ ∃ i : Nat, ∃ hi : i < m.L.length, j = i ∧ m.inn a = some m.L[i] ∧ m.L[i].ad ≤ a ∧ a < m.L[i].ad + m.L[i].room := by
  rcases hj with ⟨rfl, hn⟩ | ⟨i, hi, rfl, hf⟩
  · exact .inl ⟨rfl, List.find?_eq_none.2 fun p hp => by simpa using hn p hp⟩
  · exact .inr ⟨i, hi, rfl, inn_of h (List.getElem_mem hi) hf, hf⟩
end Go.Pw.Md

namespace Go.Pw
def RowE (e : TypeId) (s : Nat) (N : Chunk) (v : Value) (n : Nat) (xs : List Value) : Prop := Row e s N v n xs ∨ ((∃ base, v = .slice base 0 0) ∧ n = 0 ∧ N = [] ∧ xs = [])
theorem RowE.empty (e : TypeId) (s : Nat) (base : Option Addr) : RowE e s [] (.slice base 0 0) 0 [] := .inr ⟨⟨_, rfl⟩, rfl, rfl, rfl⟩
theorem RowE.rd {e : TypeId} {s n : Nat} {N : Chunk} {v : Value} {xs : List Value} (h : RowE e s N v n xs) : Rd N s v n xs := by
  rcases h with h | ⟨⟨base, rfl⟩, rfl, rfl, rfl⟩
  · exact h.rd
  · exact ⟨by simp, .inl ⟨⟨_, _, rfl⟩, rfl⟩⟩
theorem RowE.slice {e : TypeId} {s n : Nat} {N : Chunk} {v : Value} {xs : List Value} (h : RowE e s N v n xs) : ∃ a c, v = .slice a n c := let ⟨a, c, h, _⟩ := h.rd.isSlice; ⟨a, c, h⟩
theorem RowE.sng {e : TypeId} {s n : Nat} {N : Chunk} {v : Value} {xs : List Value} (h : RowE e s N v n xs) : Sng v := by obtain ⟨a, c, rfl⟩ := h.slice; infer_instance
section
variable {P : Program} {ρ : Env} {L : Chunk} {ty : TypeId}
theorem ef_appendE {t t2 e : TypeId} {s bytes n m : Nat} {x y : Operand} {v u : Value} {xs news : List Value} {N : Chunk} {C : Chunk → Chunk} {z : Value} {zs : List Value}
    (ht : Und P t (.slice e)) (ht2 : Und P t2 (.slice e)) (hz : Siz P e s) (hzv : Zer P e z) (hzc : CellsL z zs) (hzl : zs.length = s) (hby : Byt P e bytes) (hbp : 0 < bytes)
    (hx : EvO ρ x v) (hy : EvO ρ y u) (hrow : RowE e s N v n xs) (hat : At L N C) (hrd : Rd L s u m news) (hsng : ∀ v ∈ news, Sng v) (hfit : (n + m) * bytes ≤ 140737488355328) :
    Ef P ρ L (.call { callee := .builtin .append, args := #[x, y], argTypes := #[t, t2] }) ty (fun v' L' => ∃ N', L' = C N' ∧ RowE e s N' v' (n + m) (xs ++ news)) noPanic := by
  rcases hrow with hrow | ⟨⟨base, rfl⟩, rfl, rfl, rfl⟩
  · have h := ef_append (ty := ty) ht ht2 hz hzv hzc hzl hby hbp hx hy hrow hat hrd hsng hfit
    exact ⟨h.1, fun w0 w rd a next Q o ho hty ha hst hn hp => h.2 w0 w rd a next Q o ho hty ha hst (fun v w' L' hs ⟨N', h1, h2⟩ => hn v w' L' hs ⟨N', h1, .inl h2⟩) hp⟩
  · obtain ⟨A, B, rfl, hC⟩ := hat.out
    obtain rfl : C = fun X => A ++ X ++ B := funext hC
    have h := ef_append0 (ty := ty) ht ht2 hz hzv hzc hzl hby hbp hx hy hrd (by rw [Nat.zero_add] at hfit; exact hfit)
    refine ⟨h.1, fun w0 w rd a next Q o ho hty ha hst hn hp => h.2 w0 w rd a next Q o ho hty ha hst (fun v w' L' hs h => ?_) hp⟩
    rcases h with ⟨hm, rfl, rfl⟩ | ⟨hm, N', rfl, hrow⟩
    · subst hm
      have hnews : news = [] := List.eq_nil_of_length_eq_zero (by simpa using hrd.1)
      subst hnews
      exact hn _ w' _ hs ⟨[], rfl, RowE.empty ..⟩
    · have hp2 : (N' ++ (A ++ [] ++ B)).Perm (A ++ N' ++ B) := by
        rw [List.append_nil, ← List.append_assoc]
        exact List.Perm.append_right _ List.perm_append_comm
      exact hn _ w' _ (hs.perm hp2) ⟨N', rfl, .inl (by simpa using hrow)⟩
variable {w0 : World} {rd : Option Nat} {nt : Nat} {K : Post} {ds : List Deferred} {R : Chunk} {ops : Array Oper} {l : List Oper} {d : Nat} {pos : String} {after : Array Edge}
theorem OW.appendE {t t2 e : TypeId} {s bytes n m : Nat} {x y : Operand} {v u : Value} {xs news : List Value} {N : Chunk} {C : Chunk → Chunk} {z : Value} {zs : List Value}
    [hx : EvO ρ x v] [hy : EvO ρ y u] [ht : Und P t (.slice e)] [ht2 : Und P t2 (.slice e)] [hz : Siz P e s] [hzv : Zer P e z] [hzc : CellsL z zs] [hzl : LenL zs s] [hby : Byt P e bytes] [hbp : NeNat bytes 0]
    (hrow : RowE e s N v n xs) (hat : At L N C) (hrd : Rd L s u m news) (hsng : ∀ v ∈ news, Sng v) (hfit : (n + m) * bytes ≤ 140737488355328)
    (next : ∀ v' N', RowE e s N' v' (n + m) (xs ++ news) → OW P w0 rd nt ops K l (upd ρ d v') ds (C N')) :
    OW P w0 rd nt ops K (⟨some d, .call { callee := .builtin .append, args := #[x, y], argTypes := #[t, t2] }, ty, pos, after, none⟩ :: l) ρ ds L :=
  OW.eff (ef_appendE ht ht2 hz hzv hzc hzl.out hby (Nat.pos_of_ne_zero hbp.ne) hx hy hrow hat hrd hsng hfit) (fun v' L' ⟨N', h1, h2⟩ => by subst h1; exact next v' N' h2) (fun _ _ h => h.elim)
theorem RW.appendE {t t2 e : TypeId} {s bytes n m : Nat} {x y : Operand} {v u : Value} {xs news : List Value} {N : Chunk} {C : Chunk → Chunk} {z : Value} {zs : List Value} {g : Option (Nat × Bool)}
    [hg : GdT ops ρ g] [hx : EvO ρ x v] [hy : EvO ρ y u] [ht : Und P t (.slice e)] [ht2 : Und P t2 (.slice e)] [hz : Siz P e s] [hzv : Zer P e z] [hzc : CellsL z zs] [hzl : LenL zs s] [hby : Byt P e bytes] [hbp : NeNat bytes 0]
    (hrow : RowE e s N v n xs) (hat : At L N C) (hrd : Rd L s u m news) (hsng : ∀ v ∈ news, Sng v) (hfit : (n + m) * bytes ≤ 140737488355328)
    (next : ∀ v' N', RowE e s N' v' (n + m) (xs ++ news) → ∃ R', (∀ p ∈ R, p ∈ R') ∧ (∀ p ∈ R', p ∈ C N') ∧ RW P w0 rd nt ops K l R' (upd ρ d v') ds (C N')) :
    RW P w0 rd nt ops K (⟨some d, .call { callee := .builtin .append, args := #[x, y], argTypes := #[t, t2] }, ty, pos, after, g⟩ :: l) R ρ ds L :=
  RW.eff hg.out rfl (ef_appendE ht ht2 hz hzv hzc hzl.out hby (Nat.pos_of_ne_zero hbp.ne) hx hy hrow hat hrd hsng hfit) (fun v' L' ⟨N', h1, h2⟩ => by subst h1; exact next v' N' h2) (fun _ _ h => h.elim)
end
end Go.Pw

namespace Go.Pw
theorem eq_three {P : Program} {t t1 t2 t3 : TypeId} {k1 k2 k3 : IntKind} {f1 f2 f3 : Field} (hf : P.underlying t = some (.struct #[f1, f2, f3])) (h1 : f1.type = t1 ∧ f1.offset = 0 ∧ f1.name ≠ "_") (h2 : f2.type = t2 ∧ f2.offset = 1 ∧ f2.name ≠ "_") (h3 : f3.type = t3 ∧ f3.offset = 2 ∧ f3.name ≠ "_")
    [u1 : Und P t1 (.int k1)] [u2 : Und P t2 (.int k2)] [u3 : Und P t3 (.int k3)] [a1 : Agg P t1 false] [a2 : Agg P t2 false] [a3 : Agg P t3 false]
    (hs : P.stoodInHeld t = false) (w : World) (a b e c d g : Int) : (Op.equalIn 10000 t (.agg #[.int k1 a, .int k2 b, .int k3 e]) (.agg #[.int k1 c, .int k2 d, .int k3 g])).run P w = .ok (decide (a = c ∧ b = d ∧ e = g)) w := by
  have hfo : P.fieldsOf t = #[f1, f2, f3] := by simp [Program.fieldsOf, hf]
  rw [run_equalIn_struct w 9999 t _ _ (by rw [hfo]; exact hf) hs, hfo]
  have e1 : (Op.equalIn 9999 t1 (.int k1 a) (.int k1 c)).run P w = .ok (a == c) w := run_equalIn_int (P := P) w 9998 t1 k1 k1 a c u1.out
  have e2 : (Op.equalIn 9999 t2 (.int k2 b) (.int k2 d)).run P w = .ok (b == d) w := run_equalIn_int (P := P) w 9998 t2 k2 k2 b d u2.out
  have e3 : (Op.equalIn 9999 t3 (.int k3 e) (.int k3 g)).run P w = .ok (e == g) w := run_equalIn_int (P := P) w 9998 t3 k3 k3 e g u3.out
  have p1 : (part t1 #[.int k1 a, .int k2 b, .int k3 e] 0).run P w = .ok (.int k1 a) w := run_partInt (l := [.int k1 a, .int k2 b, .int k3 e])
  have p2 : (part t2 #[.int k1 a, .int k2 b, .int k3 e] 1).run P w = .ok (.int k2 b) w := run_partInt (l := [.int k1 a, .int k2 b, .int k3 e])
  have p3 : (part t3 #[.int k1 a, .int k2 b, .int k3 e] 2).run P w = .ok (.int k3 e) w := run_partInt (l := [.int k1 a, .int k2 b, .int k3 e])
  have p4 : (part t1 #[.int k1 c, .int k2 d, .int k3 g] 0).run P w = .ok (.int k1 c) w := run_partInt (l := [.int k1 c, .int k2 d, .int k3 g])
  have p5 : (part t2 #[.int k1 c, .int k2 d, .int k3 g] 1).run P w = .ok (.int k2 d) w := run_partInt (l := [.int k1 c, .int k2 d, .int k3 g])
  have p6 : (part t3 #[.int k1 c, .int k2 d, .int k3 g] 2).run P w = .ok (.int k3 g) w := run_partInt (l := [.int k1 c, .int k2 d, .int k3 g])
  simp only [Op.eqFields, h1.1, h1.2.1, h1.2.2, h2.1, h2.2.1, h2.2.2, h3.1, h3.2.1, h3.2.2, ne_eq, not_false_eq_true, if_true, Sem.run_bind, p1, p2, p3, p4, p5, p6, Result.andThen_ok, e1, e2, e3, Sem.run_ite]
  have f1' : (a == c) = decide (a = c) := beq_dec a c
  have f2' : (b == d) = decide (b = d) := beq_dec b d
  have f3' : (e == g) = decide (e = g) := beq_dec e g
  rw [f1', f2', f3']
  by_cases ha : a = c <;> by_cases hb : b = d <;> by_cases he : e = g <;> simp [ha, hb, he]
section
variable {P : Program} {w0 : World} {f : FuncId} {fn : Func} {c : Code} {n : Nat} {L : Chunk} {Φ : Value → Chunk → Prop} {Ψ : List PanicEntry → Chunk → Prop}
theorem Spec.enter7 {v0 v1 v2 v3 v4 v5 v6 : Value} (hf : P.funcs[f]? = some fn) (hb : fn.body = some c) (hn : fn.ntmps = n) (hle : 7 ≤ n) (h : CW P w0 none n c (bodyK P fn Φ Ψ) (upd (upd (upd (upd (upd (upd (upd und 0 v0) 1 v1) 2 v2) 3 v3) 4 v4) 5 v5) 6 v6) [] L) : Spec P w0 f [v0, v1, v2, v3, v4, v5, v6] L Φ Ψ :=
  Spec.enter hf hb hn hle (fun t => by rcases t with _ | _ | _ | _ | _ | _ | _ | t <;> simp [upd, und]) h
end
end Go.Pw

namespace Go.Pw
class BEqC (a b : Bool) (r : outParam Bool) : Prop where out : (a == b) = r
instance (priority := high) beqRefl {a : Bool} : BEqC a a true := ⟨by cases a <;> rfl⟩
instance beqTF : BEqC true false false := ⟨rfl⟩
instance beqFT : BEqC false true false := ⟨rfl⟩
class BNeC (a b : Bool) (r : outParam Bool) : Prop where out : (a == b) = !r
instance (priority := high) bneRefl {a : Bool} : BNeC a a false := ⟨by cases a <;> rfl⟩
instance bneTF : BNeC true false true := ⟨rfl⟩
instance bneFT : BNeC false true true := ⟨rfl⟩
section
variable {P : Program} {ρ : Env} {L : Chunk} {ty : TypeId}
theorem run_eqBool {w : World} (d' : Nat) {t : TypeId} {a b : Bool} (ht : P.underlying t = some .bool) : (Op.equalIn (d' + 1) t (.bool a) (.bool b)).run P w = .ok (a == b) w := by
  simp [Op.equalIn, run_underlying ht]
instance op1EqlBool {t yt : TypeId} {x y : Operand} {a b r : Bool} [ht : Und P t .bool] [hx : EvO ρ x (.bool a)] [hy : EvO ρ y (.bool b)] [h : BEqC a b r] : Op1 P ρ L (.binOp .eql t x y yt) ty (.bool r) :=
  ⟨yl_of_run (fun c h => (by cases h)) fun w o ho _ _ => by
    have h1 : (Op.equal t (.bool a) (.bool b)).run P w = .ok (a == b) w := run_eqBool 9999 ht.out
    unfold execOp
    simp [ho, hx.out, hy.out, eqGuard, binOp, h1, h.out]⟩
instance op1NeqBool {t yt : TypeId} {x y : Operand} {a b r : Bool} [ht : Und P t .bool] [hx : EvO ρ x (.bool a)] [hy : EvO ρ y (.bool b)] [h : BNeC a b r] : Op1 P ρ L (.binOp .neq t x y yt) ty (.bool r) :=
  ⟨yl_of_run (fun c h => (by cases h)) fun w o ho _ _ => by
    have h1 : (Op.equal t (.bool a) (.bool b)).run P w = .ok (a == b) w := run_eqBool 9999 ht.out
    unfold execOp
    simp [ho, hx.out, hy.out, eqGuard, binOp, h1, h.out]⟩
end
end Go.Pw

namespace Go.Pw
def regionOkF (n : Nat) (ops : Array Oper) (is : List Nat) (j k : Nat) : Bool :=
  noOdd ops && ops.all (dstOk n) && decide (is.length + 2 ≤ ops.size) && chkP ops is (Array.replicate ops.size false) && is.all (fun i => !(tick [j] (Array.replicate ops.size false)).getD i false) &&
    (Region.ready .any ops (tick is (Array.replicate ops.size false)) == [j, k]) && chain ops [k] ((tick is (Array.replicate ops.size false)).setIfInBounds j true) && chain ops [j] ((tick is (Array.replicate ops.size false)).setIfInBounds k true) &&
    depB ops (tick [j] (Array.replicate ops.size false)) (tick is (Array.replicate ops.size false)) k && depB ops (tick [j] (Array.replicate ops.size false)) ((tick is (Array.replicate ops.size false)).setIfInBounds j true) k &&
    (pickOps ops.toList [j]).all (fun o => !isEff o) && (pickOps ops.toList [j]).length == 1
section
variable {P : Program} {w0 : World} {rd : Option Nat} {n : Nat} {K : Post} {ρ : Env} {ds : List Deferred} {L : Chunk} {l : List Oper}
theorem CW.drawsF {id : Nat} (R : Chunk) (is : List Nat) (j k : Nat) (hm : P.follows .mixedOrders = true) (hok : regionOkF n l.toArray is j k = true) [hK : StdC K] [hR : MemC R L]
    {l1 lj lk ljk : List Oper} [p1 : Pick l is l1] [pj : Pick l [j] lj] [pk : Pick l [k] lk] [pjk : Pick l [k, j] ljk]
    (h : RW P w0 rd n l.toArray (thenK (fun ρ ds L => RW P w0 rd n l.toArray (thenK (fun ρ ds L => OW P w0 rd n l.toArray K lk ρ ds L) K) lj [] ρ ds L ∧ OW P w0 rd n l.toArray K ljk ρ ds L) K) l1 R ρ ds L) : CW P w0 rd n (.region id l.toArray true) K ρ ds L := by
  have := p1.out; subst this
  have := pj.out; subst this
  have := pk.out; subst this
  have := pjk.out; subst this
  intro a w hr hs
  simp only [regionOkF, Bool.and_eq_true, decide_eq_true_eq, beq_iff_eq] at hok
  obtain ⟨⟨⟨⟨⟨⟨⟨⟨⟨⟨⟨h1, h2⟩, h3⟩, h4⟩, h5⟩, h6⟩, h7⟩, h8⟩, h9⟩, h10⟩, h11⟩, h12⟩ := hok
  have hmem : ∀ {is : List Nat} (o : Oper), o ∈ pickOps l is → dstOk n o = true := fun o ho => Array.all_eq_true_iff_forall_mem.1 h2 o (by simpa using pickOps_mem ho)
  have hin : ∀ {is : List Nat}, ∀ o ∈ pickOps l is, ∃ i : Nat, l.toArray[i]? = some o := fun o ho => by
    obtain ⟨k, hk⟩ := List.mem_iff_getElem?.1 (pickOps_mem ho)
    exact ⟨k, by simpa using hk⟩
  have hdef : ∀ (j : Nat) (o : Oper) c, l.toArray[j]? = some o → o.op ≠ .defer c := fun j o c ho he => by
    have := Array.all_eq_true_iff_forall_mem.1 h1 o (Array.mem_of_getElem? ho)
    simp [he] at this
  obtain ⟨oj, hoj, hjn⟩ : ∃ oj, pickOps l [j] = [oj] ∧ nthOp l j = some oj := by
    simp only [pickOps] at h12 ⊢
    cases hn : nthOp l j with
    | none => simp [hn] at h12
    | some o => exact ⟨o, rfl, rfl⟩
  have hje : isEff oj = false := by
    have h11' : (pickOps l [j]).all (fun o => !isEff o) = true := h11
    rw [hoj] at h11'
    simpa using h11'
  have hji : l.toArray[j]? = some oj := by rw [← hjn, nthOp_eq]; simp
  refine wpIn_region_any hm (AnyR.any _ _ [] _ _ ?_)
  have h13 := h hmem hR.out a _ hr hs.drew
  have h14 := RDl.quit (Q' := Kx w0 n K) (Q := Kx w0 n (thenK (fun ρ ds L => RW P w0 rd n l.toArray (thenK (fun ρ ds L => OW P w0 rd n l.toArray K (pickOps l [k]) ρ ds L) K) (pickOps l [j]) [] ρ ds L ∧ OW P w0 rd n l.toArray K (pickOps l [k, j]) ρ ds L) K)) (fun e a w h => h) (fun ⟨a, w, h⟩ => ⟨a, w, h⟩) (pickOps l is) R a _ hin h13
  refine AnyB.anyR (base := tick [j] (Array.replicate l.toArray.size false)) _ _ R _ _ (RDc.anyB (more := 2) (last := tick is (Array.replicate l.toArray.size false)) (Fin := FinR w0 n (thenK (fun ρ ds L => RW P w0 rd n l.toArray (thenK (fun ρ ds L => OW P w0 rd n l.toArray K (pickOps l [k]) ρ ds L) K) (pickOps l [j]) [] ρ ds L ∧ OW P w0 rd n l.toArray K (pickOps l [k, j]) ρ ds L) K))
    (fence_fn rd) h1 (Kx.steady hK.out) (fun R a w hp hf fuel hfu => ?_) is _ _ R a _ (fun i hi => by simpa using List.all_eq_true.1 h5 i hi) h3 rfl h4 (fun b o hb => hs.drew.pn b o (hR.out _ hb)) (RDl.rdc is _ R a _ h4 h14))
  obtain ⟨ρ, ds, L, hr, hs, hRL, hw⟩ := hf
  have hw : RW P w0 rd n l.toArray (thenK (fun ρ ds L => OW P w0 rd n l.toArray K (pickOps l [k]) ρ ds L) K) (pickOps l [j]) [] ρ ds L ∧ OW P w0 rd n l.toArray K (pickOps l [k, j]) ρ ds L := hw
  have g1 := RDl.quit (Q' := Kx w0 n K) (Q := Kx w0 n (thenK (fun ρ ds L => OW P w0 rd n l.toArray K (pickOps l [k]) ρ ds L) K)) (fun e a w h => h) (fun ⟨a, w, h⟩ => ⟨a, w, h⟩) (pickOps l [j]) [] a _ hin (hw.1 hmem (fun _ h => (by cases h)) a w hr hs)
  have g2 := hw.2 (List.all_eq_true.2 fun o ho => hmem o ho) a w hr hs
  rw [hoj] at g1
  obtain ⟨v, hy, hfin⟩ : ∃ v, YI P l.toArray [] oj v a ∧ FinR w0 n (thenK (fun ρ ds L => OW P w0 rd n l.toArray K (pickOps l [k]) ρ ds L) K) [] (a.put oj.dst v) w := by
    rcases g1 with ⟨_, v, hy, h⟩ | ⟨he, _⟩
    · exact ⟨v, hy, h⟩
    · rw [hje] at he; cases he
  obtain ⟨ρ', ds', L', hr', hs', _, hw'⟩ := hfin
  have hw' : OW P w0 rd n l.toArray K (pickOps l [k]) ρ' ds' L' := hw'
  have g3 := hw' (List.all_eq_true.2 fun o ho => hmem o ho) _ w hr' hs'
  obtain ⟨fuel, rfl⟩ : ∃ f, fuel = f + 1 := ⟨fuel - 1, by omega⟩
  refine ⟨fun h0 => (by rw [h6] at h0; cases h0), fun i hi => ?_⟩
  rw [h6] at hi
  rcases List.mem_cons.1 hi with rfl | hi
  · exact hy.op (fence_fn rd) (fun c => hdef _ _ c hji) hji (fun _ _ h => (by cases h)) ⟨R, .inl fun _ h => h, hp, chain_anyB [k] fuel _ R _ w (by simp; omega) h7 (.inr fun k' hk => by
      obtain rfl : k' = k := by simpa using hk.symm
      exact h10) g3⟩
  · obtain rfl : i = k := by simpa using hi
    obtain ⟨o, ho⟩ : ∃ o, l.toArray[i]? = some o := by
      have : i ∈ Region.ready .any l.toArray (tick is (Array.replicate l.toArray.size false)) := by rw [h6]; simp
      obtain ⟨_, o, ho, _⟩ := mem_ready.1 this
      exact ⟨o, ho⟩
    have hn : nthOp l i = some o := by rw [nthOp_eq]; simpa using ho
    have hc : pickOps l [i, j] = o :: pickOps l [j] := by simp only [pickOps, hn]
    rw [hc] at g2
    have h20 : wpOpIn (fence rd) 0 P l.toArray (Kx w0 n K) i (fun a' w' => wpListIn (fence rd) 0 P l.toArray (Kx w0 n K) (pickOps l [j]) a' w') a w := by
      unfold wpOpIn
      rw [ho]
      exact g2
    exact wpOpIn_mono (fun a' w' hx => ⟨[], .inr h9, fun _ _ h => (by cases h), chain_anyB [j] fuel _ [] a' w' (by simp; omega) h8 (.inl fun _ h => h) hx⟩) h20
end
end Go.Pw
