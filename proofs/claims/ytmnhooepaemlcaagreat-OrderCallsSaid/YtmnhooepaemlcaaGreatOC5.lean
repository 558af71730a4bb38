/- OrderCalls: true for every input; arguments as before. Part 5. Conditions: none. -/
import Derived.Test.YtmnhooepaemlcaaGreatOC2
import Derived.Test.YtmnhooepaemlcaaGreatOC3
import Derived.Test.YtmnhooepaemlcaaGreatOC4
set_option linter.all false
namespace Go.Proofs.YtmnhooepaemlcaaGreat
open Go Go.Pw Go.Pw.Sc Go.Pw.Md
set_option maxRecDepth 100000
set_option maxHeartbeats 4000000
set_option synthInstance.maxHeartbeats 400000
set_option synthInstance.maxSize 2000
attribute [local irreducible] CW OW RW thenK blockK
attribute [local irreducible] scopeK loopK TRW ATW
theorem modelNone (bm bp : Nat) (m : Mod) (L : Chunk) [hm : InC L bm (.cells (mcells m bp).toArray 142 (0, 0))] : Fn1 Tryz.prog 59 [.pointer (some ⟨bm, 0, none⟩)] L (fun u L' => u = .bool false ∧ L = L') := by
 intro w0; refine Spec.enter1 Tryz.func59 rfl Tryz.ntmps59 (by decide) ?_
 have hm' := hm
 repeat' (first|refine Ga0 fun _=>?_|refine Ga1 ?_|refine Ga2 (fun _=>?_) fun _=>?_|refine Ga3 ?_|fail)
 exact bodyK.ret (Res.one Tryz.results59) ⟨rfl, rfl⟩
theorem pieceEnd (p : Pc) (v : Value) [sv : Sng v] (h : PcOk p) (L : Chunk) : Fn1 Tryz.prog 158 [pcV p v] L (fun u L' => u = .int .i64 (p.ad + p.room) ∧ L = L') := by
 intro w0; refine Spec.enter1 Tryz.func158 rfl Tryz.ntmps158 (by decide) ?_
 have h1 := h.ad
 have h2 := h.room
 have h3 := h.fin
 repeat' (first|refine Ga0 fun _=>?_|refine Ga1 ?_|refine Ga2 (fun _=>?_) fun _=>?_|refine Ga3 ?_|refine Ga4 fun _=>?_|fail)
 exact bodyK.retD L (Res.one Tryz.results158) ⟨rfl, rfl⟩
theorem pieceHas (p : Pc) (v : Value) [sv : Sng v] (h : PcOk p) (a : Int) (L : Chunk) : Fn1 Tryz.prog 116 [pcV p v, .int .i64 a] L (fun u L' => u = .bool (decide (p.ad ≤ a ∧ a < p.ad + p.room)) ∧ L = L') := by
 intro w0; refine Spec.enter2 Tryz.func116 rfl Tryz.ntmps116 (by decide) ?_
 have h1 := h.ad
 have h2 := h.room
 have h3 := h.fin
 by_cases ha : p.ad ≤ a
 ·repeat' (first|refine Ga0 fun _=>?_|refine Ga1 ?_|refine Ga2 (fun _=>?_) fun _=>?_|refine Ga3 ?_|refine Ga4 fun _=>?_|fail)
  refine OW.call (pieceEnd p v h _) ?_
  rintro _ _ ⟨rfl, rfl⟩
  repeat' (first|refine Ga0 fun _=>?_|refine Ga1 ?_|refine Ga2 (fun _=>?_) fun _=>?_|refine Ga3 ?_|refine Ga4 fun _=>?_|fail)
  all_goals exact bodyK.retD L (Res.one Tryz.results116) ⟨(congrArg Value.bool (by first | exact (decide_eq_true (by omega)).symm | exact (decide_eq_false (by omega)).symm)), rfl⟩
 ·repeat' (first|refine Ga0 fun _=>?_|refine Ga1 ?_|refine Ga2 (fun _=>?_) fun _=>?_|refine Ga3 ?_|refine Ga4 fun _=>?_|fail)
  exact bodyK.retD L (Res.one Tryz.results116) ⟨(congrArg Value.bool (by first | exact (decide_eq_true (by omega)).symm | exact (decide_eq_false (by omega)).symm)), rfl⟩
theorem in1 (p : Pc) (v : Value) [sv : Sng v] (h : PcOk p) (a : Int) (ba : Nat) (L : Chunk) [hin : InC L ba (.cells #[.int .i64 a] 3 (0, 0))] : Fn1 Tryz.prog 115 [pcV p v, .pointer (some ⟨ba, 0, none⟩)] L (fun u L' => u = .bool (decide (p.ad ≤ a ∧ a < p.ad + p.room)) ∧ L = L') := by
 intro w0; refine Spec.enter2 Tryz.func115 rfl Tryz.ntmps115 (by decide) ?_
 have h1 := hin
 repeat' (first|refine Ga0 fun _=>?_|refine Ga1 ?_|refine Ga2 (fun _=>?_) fun _=>?_|refine Ga3 ?_|refine Ga4 fun _=>?_|fail)
 refine OW.call (pieceHas p v h a _) ?_
 rintro _ _ ⟨rfl, rfl⟩
 by_cases ha : p.ad ≤ a ∧ a < p.ad + p.room
 ·rw [decide_eq_true ha]
  repeat' (first|refine Ga0 fun _=>?_|refine Ga1 ?_|refine Ga2 (fun _=>?_) fun _=>?_|refine Ga3 ?_|refine Ga4 fun _=>?_|fail)
  exact bodyK.retD L (Res.one Tryz.results115) ⟨rfl, rfl⟩
 ·rw [decide_eq_false ha]
  repeat' (first|refine Ga0 fun _=>?_|refine Ga1 ?_|refine Ga2 (fun _=>?_) fun _=>?_|refine Ga3 ?_|refine Ga4 fun _=>?_|fail)
  exact bodyK.retD L (Res.one Tryz.results115) ⟨rfl, rfl⟩
theorem mapsValues (bp : Nat) (L : Chunk) : Fn1 Tryz.prog 114 [.map (some bp)] L
  (fun u L' => ∃ bx, u = .func (.func 157) #[] #[.pointer (some ⟨bx, 0, none⟩)] ∧ L' = (bx, .cells #[.map (some bp)] 140 (0, 0)) :: L) := by
 intro w0; refine Spec.enter1 Tryz.func114 rfl Tryz.ntmps114 (by decide) ?_
 repeat' (first|refine Ga0 fun _=>?_|refine Ga1 ?_|refine Ga2 (fun _=>?_) fun _=>?_|refine Ga3 ?_|refine Ga4 fun _=>?_|fail)
 exact bodyK.ret (Res.one Tryz.results114) ⟨_, rfl, rfl⟩
theorem values1 (fv : Value) [sf : Sng fv] (bx bp c : Nat) (es : List MapEntry) (zs : List (MapEntry × Pc)) (J : List (MapEntry × Pc) → Chunk → Prop) (E : Chunk → Prop) (L : Chunk) (hk : KV .u32 es c) (hes : es = zs.map (·.1)) (hv : ∀ z ∈ zs, ∃ v, z.1.val = pcV z.2 v ∧ Sng v) (h0 : J zs L)
  (hJ : ∀ tz L', J tz L' → InC L' bx (.cells #[.map (some bp)] 140 (0, 0)) ∧ InC L' bp (.map es.toArray c) ∧ (tz = [] → E L') ∧
   ∀ M A z B, tz = A ++ z :: B → z ∈ zs → VP Tryz.prog fv [z.1.val] (M ++ L') (fun u L'' => ∃ L3, L'' = M ++ L3 ∧ ((u = .bool true ∧ J (A ++ B) L3) ∨ (u = .bool false ∧ E L3))) noPanic) :
  Fn1 Tryz.prog 157 [fv, .pointer (some ⟨bx, 0, none⟩)] L (fun _ L' => E L') := by
 intro w0; refine Spec.enter2 Tryz.func157 rfl Tryz.ntmps157 (by decide) ?_
 obtain ⟨g1, g2, g3⟩ := hJ zs L h0
 repeat' (first|refine Ga0 fun _=>?_|refine Ga1 ?_|refine Ga2 (fun _=>?_) fun _=>?_|refine Ga3 ?_|refine Ga4 fun _=>?_|fail)
 rename_i r
 clear g3
 refine CW.loop (fun m ρ ds L' => ds = [] ∧ (∃ tz seen L3, L' = (r, .mapIter (some bp) c seen c) :: L3 ∧ J tz L3 ∧ LeftZ zs seen tz ∧ m = tz.length) ∧ Ev ρ 0 fv ∧ Ev ρ 6 (.pointer (some ⟨r, 0, none⟩))) zs.length ⟨rfl, ⟨zs, #[], L, rfl, h0, LeftZ.init zs, rfl⟩, ii, ii⟩ ?_
 clear g1 g2 h0
 rintro m ρ ds L' ⟨rfl, ⟨tz, seen, L3, rfl, hj, hl, rfl⟩, e0, e6⟩
 obtain ⟨g1, g2, g3, g4⟩ := hJ tz L3 hj
 repeat' (first|refine Ga0 fun _=>?_|refine Ga1 ?_|refine Ga2 (fun _=>?_) fun _=>?_|refine Ga3 ?_|refine Ga4 fun _=>?_|fail)
 refine OW.nextZ (r := r) (m := bp) (since := c) (c0 := c) (clock := c) (seen := seen) (es := es) (zs := zs) hk hes hl (fun e he => hk.old e he) (Nat.le_refl _) (fun h => ?_) (fun A z B htz hz hl' => ?_)
 ·repeat' (first|refine Ga0 fun _=>?_|refine Ga1 ?_|refine Ga2 (fun _=>?_) fun _=>?_|refine Ga3 ?_|refine Ga4 fun _=>?_|fail)
  exact bodyK.nrmD L3 (Res.zero Tryz.results157) (g3 h)
 ·obtain ⟨v, hzv, sv⟩ := hv z hz
  have hze : z.1 ∈ es := by rw [hes]; exact List.mem_map.2 ⟨z, hz, rfl⟩
  repeat' (first|refine Ga0 fun _=>?_|refine Ga1 ?_|refine Ga2 (fun _=>?_) fun _=>?_|refine Ga3 ?_|refine Ga4 fun _=>?_|fail)
  refine OW.entryE (r := r) (m := bp) (since := c) (c := c) (seen := seen) (e := z.1) hk hze ?_
  rw [hzv]
  repeat' (first|refine Ga0 fun _=>?_|refine Ga1 ?_|refine Ga2 (fun _=>?_) fun _=>?_|refine Ga3 ?_|refine Ga4 fun _=>?_|fail)
  rename_i b4
  have g5 := g4 [(b4, .cells #[.int .u32 z.2.ad, .int .i64 z.2.size, .int .i64 z.2.room, v] 152 (0, 0)), (r, .mapIter (some bp) c (seen.push z.1.born) c)] A z B htz hz
  rw [hzv] at g5
  refine OW.callV1 g5 ?_
  rintro _ _ ⟨L4, rfl, ⟨rfl, hj'⟩ | ⟨rfl, hE⟩⟩
  ·refine OW.drop (List.sublist_cons_self ..) ?_
   repeat' (first|refine Ga0 fun _=>?_|refine Ga1 ?_|refine Ga2 (fun _=>?_) fun _=>?_|refine Ga3 ?_|refine Ga4 fun _=>?_|fail)
   exact ⟨(A ++ B).length, by rw [htz]; simp, rfl, ⟨A ++ B, _, L4, rfl, hj', hl', rfl⟩, ii, ii⟩
  ·repeat' (first|refine Ga0 fun _=>?_|refine Ga1 ?_|refine Ga2 (fun _=>?_) fun _=>?_|refine Ga3 ?_|refine Ga4 fun _=>?_|fail)
   exact bodyK.retD L4 (Res.zero Tryz.results157) hE
@[reducible] def zeroPc : Value := .agg #[.int .u32 0, .int .i64 0, .int .i64 0, .slice none 0 0]
theorem modelFound (bx bp c : Nat) (es : List MapEntry) (zs : List (MapEntry × Pc)) (q : Pc → Bool) (fv : Value) [sf : Sng fv] (L : Chunk) [h1 : InC L bx (.cells #[.map (some bp)] 140 (0, 0))] [h2 : InC L bp (.map es.toArray c)] (hk : KV .u32 es c) (hz : Zs L es zs)
  (hf : ∀ z ∈ zs, ∀ v, z.1.val = pcV z.2 v → Sng v → ∀ L' [MemC L L'], VP Tryz.prog fv [pcV z.2 v] L' (fun u L'' => u = .bool (q z.2) ∧ L' = L'') noPanic) :
  Fn1 Tryz.prog 113 [.func (.func 157) #[] #[.pointer (some ⟨bx, 0, none⟩)], fv] L
   (fun u L' => ((∃ z ∈ zs, q z.2 = true ∧ u = .tuple #[z.1.val, .bool true]) ∨ ((∀ z ∈ zs, q z.2 = false) ∧ u = .tuple #[zeroPc, .bool false])) ∧ L = L') := by
 intro w0; refine Spec.enterM2 Tryz.func113 rfl Tryz.ntmps113 (by decide) ?_
 have z5:DrA 5 (.two 0 1 (.two 1 2 (.one 2 (.one 3 (.done))) (.one 1 (.one 3 (.done)))) (.one 0 (.one 2 (.one 3 (.done))))):=⟨⟨⟩⟩
 have h1' := h1
 have h2' := h2
 repeat' (first|refine Gm0 fun _=>?_|refine Gm1 ?_|refine ATW.d ?_|refine ATW.o ?_|refine ATW.t ?_ ?_|refine Gm2 (fun _=>?_) fun _=>?_|refine Gm3 ?_|refine Gm4 fun _=>?_|fail)
 rename_i b3 b4 b5
 refine CW.rangeFunc (fun lp DD rec hrec => ?_)
 refine (values1 (.func (.yield lp) #[] #[]) bx bp c es zs
  (fun tz Lx => Lx = (lp, rec .ready none) :: (DD, .deferred (some [])) :: (b5, .cells #[.bool false] 4 (0, 0)) :: (b4, .cells #[.int .u32 0, .int .i64 0, .int .i64 0, .slice none 0 0] 152 (0, 0)) :: (b3, .cells #[fv] 230 (0, 0)) :: L ∧ ∀ z ∈ zs, q z.2 = true → z ∈ tz)
  (fun Lx => (Lx = (lp, rec .ready none) :: (DD, .deferred (some [])) :: (b5, .cells #[.bool false] 4 (0, 0)) :: (b4, .cells #[.int .u32 0, .int .i64 0, .int .i64 0, .slice none 0 0] 152 (0, 0)) :: (b3, .cells #[fv] 230 (0, 0)) :: L ∧ ∀ z ∈ zs, q z.2 = false) ∨
   (∃ z ∈ zs, ∃ v, z.1.val = pcV z.2 v ∧ Sng v ∧ q z.2 = true ∧ Lx = (lp, rec .done (some (.exit 0))) :: (DD, .deferred (some [])) :: (b5, .cells #[.bool true] 4 (0, 0)) :: (b4, .cells #[.int .u32 z.2.ad, .int .i64 z.2.size, .int .i64 z.2.room, v] 152 (0, 0)) :: (b3, .cells #[fv] 230 (0, 0)) :: L))
  _ hk hz.es (fun z hz' => by obtain ⟨_, v, h1, h2⟩ := hz.at_ z hz'; exact ⟨v, h1, h2.sng⟩) ⟨rfl, fun z h _ => h⟩ ?_ w0).mono ?_ (fun _ _ h => h.elim)
 ·rintro tz _ ⟨rfl, htrue⟩
  refine ⟨ii, ii, fun h => .inl ⟨rfl, fun z hz' => ?_⟩, fun M A z B htz hz' => ?_⟩
  ·cases hq : q z.2 with
   | false => rfl
   | true => have := htrue z hz' hq; rw [h] at this; cases this
  obtain ⟨_, v, hzv, hrd⟩ := hz.at_ z hz'
  have sv := hrd.sng
  rw [hzv]
  refine VP.front (VP.yield1 hrec (by decide) (fun w0 => ?_))
  repeat' (first|refine Gm0 fun _=>?_|refine Gm1 ?_|refine ATW.d ?_|refine ATW.o ?_|refine ATW.t ?_ ?_|refine Gm2 (fun _=>?_) fun _=>?_|refine Gm3 ?_|refine Gm4 fun _=>?_|fail)
  rename_i b6
  refine beginR ?_
  repeat' (first|refine Gm0 fun _=>?_|refine Gm1 ?_|refine ATW.d ?_|refine ATW.o ?_|refine ATW.t ?_ ?_|refine Gm2 (fun _=>?_) fun _=>?_|refine Gm3 ?_|refine Gm4 fun _=>?_|fail)
  refine OW.callV1 (hf z hz' v hzv sv _) ?_
  rintro _ _ ⟨rfl, rfl⟩
  cases hq : q z.2 with
  | true =>
   repeat' (first|refine Gm0 fun _=>?_|refine Gm1 ?_|refine ATW.d ?_|refine ATW.o ?_|refine ATW.t ?_ ?_|refine Gm2 (fun _=>?_) fun _=>?_|refine Gm3 ?_|refine Gm4 fun _=>?_|fail)
   refine roundK.exit ?_
   exact ⟨[_], _, rfl, _, rfl, .inr ⟨rfl, .inr ⟨z, hz', v, hzv, sv, hq, rfl⟩⟩⟩
  | false =>
   repeat' (first|refine Gm0 fun _=>?_|refine Gm1 ?_|refine ATW.d ?_|refine ATW.o ?_|refine ATW.t ?_ ?_|refine Gm2 (fun _=>?_) fun _=>?_|refine Gm3 ?_|refine Gm4 fun _=>?_|fail)
   refine roundK.nrm ?_
   refine ⟨[_], _, rfl, _, rfl, .inl ⟨rfl, rfl, fun y hy hqy => ?_⟩⟩
   have := htrue y hy hqy
   rw [htz] at this
   rcases List.mem_append.1 this with h | h
   ·exact List.mem_append_left _ h
   ·rcases List.mem_cons.1 h with rfl | h
    ·rw [hq] at hqy; cases hqy
    ·exact List.mem_append_right _ h
 ·rintro u _ (⟨rfl, hn⟩ | ⟨z, hz', v, hzv, sv, hq, rfl⟩)
  ·refine rangeK.nrm ?_
   repeat' (first|refine Gm0 fun _=>?_|refine Gm1 ?_|refine ATW.d ?_|refine ATW.o ?_|refine ATW.t ?_ ?_|refine Gm2 (fun _=>?_) fun _=>?_|refine Gm3 ?_|refine Gm4 fun _=>?_|fail)
   all_goals exact bodyM.retM L (Res.of2 Tryz.results113) ⟨.inr ⟨hn, rfl⟩, rfl⟩
  ·refine rangeK.jump (c := .exit 0) ?_
   repeat' (first|refine Gm0 fun _=>?_|refine Gm1 ?_|refine ATW.d ?_|refine ATW.o ?_|refine ATW.t ?_ ?_|refine Gm2 (fun _=>?_) fun _=>?_|refine Gm3 ?_|refine Gm4 fun _=>?_|fail)
   all_goals exact bodyM.retM L (Res.of2 Tryz.results113) ⟨.inl ⟨z, hz', hq, by rw [hzv]⟩, rfl⟩
theorem repeatInt (x : Int) (bx : Nat) (N : Nat) (hn : N ≤ 1000000) (L : Chunk) [hb : InC L bx (.cells #[.int .i64 x] 3 (0, 0))] :
  Fn1 Tryz.prog 221 [.slice (some ⟨bx, 0, none⟩) 1 1, .int .i64 (N : Int)] L (fun u L' => ∃ b, u = .slice (some ⟨b, 0, none⟩) N N ∧ L' = (b, .cells (List.replicate N (.int .i64 x)).toArray 3 (0, 0)) :: L) := by
 intro w0; refine Spec.enter2 Tryz.func221 rfl Tryz.ntmps221 (by decide) ?_
 have z9:DrP 9 [0,1,2,3,4,5,6,7,8,9]:=⟨⟨⟩⟩
 have hb' := hb
 repeat' (first|refine Gi0 fun _=>?_|refine Gi1 ?_|refine Gi2 (fun _=>?_) fun _=>?_|refine Gi3 ?_|refine Gi4 fun _=>?_|fail)
 refine OW.call (bitsMul 1 (N : Int) (by decide) (by omega) _) ?_
 rintro _ _ ⟨rfl, rfl⟩
 rw [Int.one_mul, show (N : Int) / 18446744073709551616 = 0 by omega, wrap_in (k := .u64) (by constructor <;> omega)]
 repeat' (first|refine Gi0 fun _=>?_|refine Gi1 ?_|refine Gi2 (fun _=>?_) fun _=>?_|refine Gi3 ?_|refine Gi4 fun _=>?_|fail)
 refine OW.makeSlice (a := N) (c := N) (by omega) (fun b => ?_)
 repeat' (first|refine Gi0 fun _=>?_|refine Gi1 ?_|refine Gi2 (fun _=>?_) fun _=>?_|refine Gi3 ?_|refine Gi4 fun _=>?_|fail)
 have hrx : Rd ((b, Obj.cells (List.replicate N (Value.int .i64 0)).toArray 3 (0, 0)) :: L) 1 (.slice (some ⟨bx, 0, none⟩) 1 1) 1 [.int .i64 x] := Rd.blk (l := [_]) rfl (Nat.le_refl _)
 refine OW.copy hrx (fun v hv => by rw [List.mem_singleton.1 hv]; infer_instance) (by simp) ?_
 have e0 : (List.replicate N (Value.int .i64 0)).take 0 ++ [Value.int .i64 x].take (min 1 N) ++ (List.replicate N (Value.int .i64 0)).drop (0 + min 1 N) = List.replicate (min 1 N) (Value.int .i64 x) ++ List.replicate (N - min 1 N) (Value.int .i64 0) := by
  cases N with
  | zero => rfl
  | succ n => rw [show min 1 (n + 1) = 1 by omega]; simp [List.replicate_succ]
 rw [e0]
 clear e0 hrx
 repeat' (first|refine Gi0 fun _=>?_|refine Gi1 ?_|refine Gi2 (fun _=>?_) fun _=>?_|refine Gi3 ?_|refine Gi4 fun _=>?_|fail)
 refine CW.loop (fun m ρ ds L' => ds = [] ∧ (∃ k, L' = (b, .cells (List.replicate k (Value.int .i64 x) ++ List.replicate (N - k) (Value.int .i64 0)).toArray 3 (0, 0)) :: L ∧ k ≤ N ∧ (N = 0 ∨ 1 ≤ k) ∧ m = N - k ∧ Ev ρ 8 (.int .i64 (k : Int))) ∧ Ev ρ 7 (.slice (some ⟨b, 0, none⟩) N N)) (N - min 1 N) ⟨rfl, ⟨min 1 N, rfl, by omega, by omega, rfl, ii⟩, ii⟩ ?_
 rintro m ρ ds L' ⟨rfl, ⟨k, rfl, hk1, hk2, rfl, e8⟩, e7⟩
 by_cases hlt : k < N
 ·repeat' (first|refine Gi0 fun _=>?_|refine Hi1 ?_|refine Gi2 (fun _=>?_) fun _=>?_|refine Gi3 ?_|refine Gi4 fun _=>?_|fail)
  refine CW.drawsR [] [0, 1, 2, 3, 4, 5, 6, 7, 8, 9] mixed (by kernel_rfl) ?_
  repeat' (first|refine Gi0 fun _=>?_|refine Hi1 ?_|refine Gi2 (fun _=>?_) fun _=>?_|refine Gi3 ?_|refine Gi4 fun _=>?_|fail)
  have hfull : Rd ((b, Obj.cells (List.replicate k (Value.int .i64 x) ++ List.replicate (N - k) (Value.int .i64 0)).toArray 3 (0, 0)) :: L) 1 (.slice (some ⟨b, 0, none⟩) N N) N (List.replicate k (Value.int .i64 x) ++ List.replicate (N - k) (Value.int .i64 0)) := Rd.blk (by simp; omega) (Nat.le_refl _)
  refine RW.y (yl_slLo (l' := k) (j := (k : Int)) ii ii ii ii ii hfull ⟨by omega, by omega⟩) rfl ?_
  rw [show slV (.slice (some ⟨b, 0, none⟩) N N) k N 1 = .slice (some ⟨b, k, none⟩) (N - k) (N - k) by
   have hadd : (⟨b, 0, none⟩ : Addr).add (k * 1) = ⟨b, k, none⟩ := by unfold Addr.add; split <;> simp_all
   rw [Nat.mul_one] at hadd
   simp [slV, show ¬ N = k by omega, hadd]]
  repeat' (first|refine Gi0 fun _=>?_|refine Hi1 ?_|refine Gi2 (fun _=>?_) fun _=>?_|refine Gi3 ?_|refine Gi4 fun _=>?_|fail)
  refine RW.y (yl_slHi (h' := k) (j := (k : Int)) ii ii ii ii ii hfull ⟨by omega, by omega⟩) rfl ?_
  have hsrc := hfull.sl (lo := 0) (hi := k) (by omega) (by omega)
  have es : slV (.slice (some ⟨b, 0, none⟩) N N) 0 k 1 = .slice (some ⟨b, 0, none⟩) k N := by
   have hadd : (⟨b, 0, none⟩ : Addr).add (0 * 1) = ⟨b, 0, none⟩ := by unfold Addr.add; split <;> simp_all
   simp [slV, hadd]
  rw [es] at hsrc ⊢
  have exs : ((List.replicate k (Value.int .i64 x) ++ List.replicate (N - k) (Value.int .i64 0)).drop (0 * 1)).take ((k - 0) * 1) = List.replicate k (Value.int .i64 x) := by simp
  rw [exs] at hsrc
  repeat' (first|refine Gi0 fun _=>?_|refine Hi1 ?_|refine Gi2 (fun _=>?_) fun _=>?_|refine Gi3 ?_|refine Gi4 fun _=>?_|fail)
  refine RW.copy hsrc (fun v hv => by rw [(List.mem_replicate.1 hv).2]; infer_instance) (by simp <;> omega) (pinOld ?_)
  have el : (List.replicate k (Value.int .i64 x) ++ List.replicate (N - k) (Value.int .i64 0)).take k ++ (List.replicate k (Value.int .i64 x)).take (min (k - 0) (N - k)) ++ (List.replicate k (Value.int .i64 x) ++ List.replicate (N - k) (Value.int .i64 0)).drop (k + min (k - 0) (N - k)) = List.replicate (k + min k (N - k)) (Value.int .i64 x) ++ List.replicate (N - (k + min k (N - k))) (Value.int .i64 0) := by
   rw [List.take_append_of_le_length (by simp), List.take_of_length_le (by simp), List.take_replicate, List.drop_append, List.drop_of_length_le (by simp <;> omega)]
   simp only [List.length_replicate, List.nil_append, List.drop_replicate, List.replicate_append_replicate]
   congr 2
   ·omega
   ·omega
  rw [el]
  repeat' (first|refine Gi0 fun _=>?_|refine Hi1 ?_|refine Gi2 (fun _=>?_) fun _=>?_|refine Gi3 ?_|refine Gi4 fun _=>?_|fail)
  refine ⟨N - (k + min k (N - k)), by omega, rfl, ⟨k + min k (N - k), rfl, by omega, by omega, rfl, ?_⟩, ii⟩
  rw [show ((k + min k (N - k) : Nat) : Int) = (k : Int) + ((min (k - 0) (N - k) : Nat) : Int) by simp]
  infer_instance
 ·obtain rfl : k = N := by omega
  repeat' (first|refine Gi0 fun _=>?_|refine Gi1 ?_|refine Gi2 (fun _=>?_) fun _=>?_|refine Gi3 ?_|refine Gi4 fun _=>?_|fail)
  have e9 : (b, Obj.cells (List.replicate k (Value.int .i64 x) ++ List.replicate (k - k) (Value.int .i64 0)).toArray 3 (0, 0)) :: L = (b, .cells (List.replicate k (.int .i64 x)).toArray 3 (0, 0)) :: L := by simp
  exact bodyK.ret (Res.one Tryz.results221) ⟨b, rfl, e9⟩
theorem modelFilled (x : Int) (N : Nat) (hn : N ≤ 1000000) (L : Chunk) : Fn1 Tryz.prog 181 [.int .i64 (N : Int), .int .i64 x] L (fun u L' => ∃ b, u = .slice (some ⟨b, 0, none⟩) N N ∧ L' = (b, .cells (List.replicate N (.int .i64 x)).toArray 3 (0, 0)) :: L) := by
 intro w0; refine Spec.enter2 Tryz.func181 rfl Tryz.ntmps181 (by decide) ?_
 repeat' (first|refine Ga0 fun _=>?_|refine Ga1 ?_|refine Ga2 (fun _=>?_) fun _=>?_|refine Ga3 ?_|refine Ga4 fun _=>?_|fail)
 rename_i bx
 refine OW.call (repeatInt x bx N hn _) ?_
 rintro _ _ ⟨b, rfl, rfl⟩
 repeat' (first|refine Ga0 fun _=>?_|refine Ga1 ?_|refine Ga2 (fun _=>?_) fun _=>?_|refine Ga3 ?_|refine Ga4 fun _=>?_|fail)
 exact bodyK.retD ((b, .cells (List.replicate N (Value.int .i64 x)).toArray 3 (0, 0)) :: L) (Res.one Tryz.results181) ⟨b, rfl, rfl⟩
theorem cloneI (v : Value) (xs : List Int) (L : Chunk) (h : Rd L 1 v xs.length (iv xs)) (hl : xs.length ≤ 100000000) : Fn1 Tryz.prog 85 [v] L (fun u L' => ∃ N, L' = N ++ L ∧ Row 3 1 N u xs.length (iv xs)) := by
 intro w0; refine Spec.enter1 Tryz.func85 rfl Tryz.ntmps85 (by decide) ?_
 have h0 := h
 obtain ⟨a, c, rfl, hc⟩ := h.isSlice
 cases a with
 | none =>
  have hx : xs = [] := by
   rcases h.2 with ⟨h1, h2⟩ | ⟨b, k, cap, cc, e, fr, h1, _⟩
   ·exact List.eq_nil_of_length_eq_zero h2
   ·cases h1
  subst hx
  repeat' (first|refine Ga0 fun _=>?_|refine Ga1 ?_|refine Ga2 (fun _=>?_) fun _=>?_|refine Ga3 ?_|refine Ga4 fun _=>?_|fail)
  exact bodyK.ret (Res.one Tryz.results85) ⟨[], rfl, Row.nil _ _⟩
 | some ad =>
  repeat' (first|refine Ga0 fun _=>?_|refine Ga1 ?_|refine Ga2 (fun _=>?_) fun _=>?_|refine Ga3 ?_|refine Ga4 fun _=>?_|fail)
  rename_i bz
  have hrow : Row 3 1 [(bz, .cells #[] 3 (0, 0))] (.slice (some ⟨bz, 0, none⟩) 0 0) 0 (iv []) := Row.build rfl
  refine OW.append hrow ii h0.to (fun v hv => by simp only [iv, List.mem_map] at hv; obtain ⟨z, _, rfl⟩ := hv; infer_instance) (by omega) (fun v' N' hrow' => ?_)
  have s1 := hrow'.sng
  repeat' (first|refine Ga0 fun _=>?_|refine Ga1 ?_|refine Ga2 (fun _=>?_) fun _=>?_|refine Ga3 ?_|refine Ga4 fun _=>?_|fail)
  exact bodyK.ret (Res.one Tryz.results85) ⟨N', rfl, by simpa [iv] using hrow'⟩
theorem modelKind (x : NeedM) (L : Chunk) : Fn1 Tryz.prog 242 [.agg #[.bool x.small, .int .i64 x.cls, .int .i64 x.pages, .int .i64 x.charge]] L (fun u L' => u = .int .i64 (if x.small then 2 else 3) ∧ L = L') := by
 intro w0; refine Spec.enter1 Tryz.func242 rfl Tryz.ntmps242 (by decide) ?_
 cases hs : x.small
 ·repeat' (first|refine Ga0 fun _=>?_|refine Ga1 ?_|refine Ga2 (fun _=>?_) fun _=>?_|refine Ga3 ?_|refine Ga4 fun _=>?_|fail)
  exact bodyK.retD L (Res.one Tryz.results242) ⟨rfl, rfl⟩
 ·repeat' (first|refine Ga0 fun _=>?_|refine Ga1 ?_|refine Ga2 (fun _=>?_) fun _=>?_|refine Ga3 ?_|refine Ga4 fun _=>?_|fail)
  exact bodyK.retD L (Res.one Tryz.results242) ⟨rfl, rfl⟩
theorem modelGreat (p : Pc) (v : Value) [sv : Sng v] (h : PcOk p) (L : Chunk) : Fn1 Tryz.prog 183 [pcV p v] L (fun u L' => u = .bool (decide ((site (p.ad / 256)).1 = 3)) ∧ L = L') := by
 intro w0; refine Spec.enter1 Tryz.func183 rfl Tryz.ntmps183 (by decide) ?_
 have h1 := h.ad
 have h2 := h.room
 have h3 := h.fin
 repeat' (first|refine Gb0 fun _=>?_|refine Gb1 ?_|refine Gb2 (fun _=>?_) fun _=>?_|refine Gb3 ?_|refine Gb4 fun _=>?_|fail)
 refine OW.call (windowOf (p.ad / 256) (by omega) _) ?_
 rintro _ _ ⟨⟨c, q, rfl⟩, rfl⟩
 by_cases hk : (site (p.ad / 256)).1 = 3
 ·repeat' (first|refine Gb0 fun _=>?_|refine Gb1 ?_|refine Gb2 (fun _=>?_) fun _=>?_|refine Gb3 ?_|refine Gb4 fun _=>?_|fail)
  exact bodyK.retD L (Res.one Tryz.results183) ⟨by rw [decide_eq_true hk], rfl⟩
 ·repeat' (first|refine Gb0 fun _=>?_|refine Gb1 ?_|refine Gb2 (fun _=>?_) fun _=>?_|refine Gb3 ?_|refine Gb4 fun _=>?_|fail)
  exact bodyK.retD L (Res.one Tryz.results183) ⟨by rw [decide_eq_false hk], rfl⟩
structure OutR (o : OutM) : Prop where
 errno : inR .i64 o.errno
 ad : inR .u32 o.ad
 n : inR .i64 o.n
@[reducible] def outV (o : OutM) (vb : Value) : Value := .agg #[.int .i64 o.errno, .int .u32 o.ad, .int .i64 o.n, vb]
theorem indexErr (xs : List Int) (x : Int) (v : Value) (L : Chunk) (h : Rd L 1 v xs.length (iv xs)) (hl : (xs.length : Int) ≤ 9223372036854775807) :
  Fn1 Tryz.prog 241 [v, .int .i64 x] L (fun u L' => (∃ k, u = .int .i64 k ∧ (0 ≤ k ↔ x ∈ xs)) ∧ L = L') := by
 intro w0; refine Spec.enter2 Tryz.func241 rfl Tryz.ntmps241 (by decide) ?_
 obtain ⟨a, c, rfl, hc⟩ := h.isSlice
 repeat' (first|refine Ga0 fun _=>?_|refine Ga1 ?_|refine Ga2 (fun _=>?_) fun _=>?_|refine Ga3 ?_|fail)
 refine CW.count xs.length (fun i ρ ds L' => ds = [] ∧ L' = L ∧ (∀ y ∈ xs.take i, y ≠ x) ∧ Ev ρ 0 (.slice a xs.length c) ∧ Ev ρ 1 (.int .i64 x) ∧ Ev ρ 7 (.int .i64 xs.length) ∧ Ev ρ 8 (.int .i64 i)) ⟨rfl, rfl, by simp, ii, ii, ii, ii⟩ ?_
 rintro i ρ ds L' hi ⟨rfl, rfl, hp, e0, e1, e7, e8⟩
 by_cases hlt : i < xs.length
 ·obtain ⟨b, k, cap, l, e, fr, hv, hin, hcap, hnth⟩ := h.open1 (by omega)
  cases hv
  have hn := hnth i _ hlt (iv_get hlt)
  by_cases hx : x = xs[i]
  ·repeat' (first|refine Ga0 fun _=>?_|refine Ga1 ?_|refine Ga2 (fun _=>?_) fun _=>?_|refine Ga3 ?_|fail)
   exact bodyK.ret (Res.one Tryz.results241) ⟨⟨i, rfl, fun _ => hx ▸ List.getElem_mem hlt, fun _ => by omega⟩, rfl⟩
  ·repeat' (first|refine Ga0 fun _=>?_|refine Ga1 ?_|refine Ga2 (fun _=>?_) fun _=>?_|refine Ga3 ?_|fail)
   refine ⟨hlt, rfl, rfl, ?_, ii, ii, ii, ii⟩
   rw [List.take_succ_eq_append_getElem hlt]
   intro y hy
   rcases List.mem_append.1 hy with hy | hy
   ·exact hp y hy
   ·rw [List.mem_singleton.1 hy]; exact fun e => hx e.symm
 ·obtain rfl : i = xs.length := by omega
  rw [List.take_length] at hp
  repeat' (first|refine Ga0 fun _=>?_|refine Ga1 ?_|refine Ga2 (fun _=>?_) fun _=>?_|refine Ga3 ?_|fail)
  exact bodyK.ret (Res.one Tryz.results241) ⟨⟨-1, rfl, fun h => absurd h (by decide), fun hm => absurd rfl (hp x hm)⟩, rfl⟩
theorem containsErr (xs : List Int) (x : Int) (v : Value) (L : Chunk) (h : Rd L 1 v xs.length (iv xs)) (hl : (xs.length : Int) ≤ 9223372036854775807) :
  Fn1 Tryz.prog 217 [v, .int .i64 x] L (fun u L' => u = .bool (decide (x ∈ xs)) ∧ L = L') := by
 intro w0; refine Spec.enter2 Tryz.func217 rfl Tryz.ntmps217 (by decide) ?_
 have sv := h.sng
 repeat' (first|refine Ga0 fun _=>?_|refine Ga1 ?_|refine Ga2 (fun _=>?_) fun _=>?_|refine Ga3 ?_|fail)
 refine OW.call (indexErr xs x v L h hl) ?_
 rintro u L' ⟨⟨k, rfl, hk⟩, rfl⟩
 repeat' (first|refine Ga0 fun _=>?_|refine Ga1 ?_|refine Ga2 (fun _=>?_) fun _=>?_|refine Ga3 ?_|fail)
 all_goals refine bodyK.ret (Res.one Tryz.results217) ⟨congrArg Value.bool ?_, rfl⟩
 ·exact (decide_eq_true (hk.1 (by assumption))).symm
 ·exact (decide_eq_false (fun h => absurd (hk.2 h) (by assumption))).symm
theorem modelBare (o : OutM) (vb v : Value) (xs : List Int) (L : Chunk) (hb : BS L vb o.bytes) (h : Rd L 1 v xs.length (iv xs)) (hl : (xs.length : Int) ≤ 9223372036854775807) :
  Fn1 Tryz.prog 178 [outV o vb, v] L (fun u L' => u = .bool (decide (bareO o xs)) ∧ L = L') := by
 intro w0; refine Spec.enter2 Tryz.func178 rfl Tryz.ntmps178 (by decide) ?_
 have sv := h.sng
 obtain ⟨a, c, rfl⟩ := hb.slice
 have no : ¬ noneO o → decide (bareO o xs) = false := fun h => decide_eq_false fun hh => h hh.1
 by_cases h1 : o.ad = 0
 ·by_cases h2 : o.n = 0
  ·by_cases h3 : o.bytes.length = 0
   ·repeat' (first|refine Ga0 fun _=>?_|refine Ga1 ?_|refine Ga2 (fun _=>?_) fun _=>?_|refine Ga3 ?_|refine Ga4 fun _=>?_|fail)
    refine OW.call (containsErr xs o.errno v _ h.to hl) ?_
    rintro _ _ ⟨rfl, rfl⟩
    have e : decide (o.errno ∈ xs) = decide (bareO o xs) := by
     have : noneO o := ⟨h1, h2, List.eq_nil_of_length_eq_zero h3⟩
     simp [bareO, this]
    rw [e]
    cases decide (bareO o xs)
    ·repeat' (first|refine Ga0 fun _=>?_|refine Ga1 ?_|refine Ga2 (fun _=>?_) fun _=>?_|refine Ga3 ?_|refine Ga4 fun _=>?_|fail)
     exact bodyK.retD L (Res.one Tryz.results178) ⟨rfl, rfl⟩
    ·repeat' (first|refine Ga0 fun _=>?_|refine Ga1 ?_|refine Ga2 (fun _=>?_) fun _=>?_|refine Ga3 ?_|refine Ga4 fun _=>?_|fail)
     exact bodyK.retD L (Res.one Tryz.results178) ⟨rfl, rfl⟩
   ·rw [no (fun hn => h3 (by rw [hn.2.2]; rfl))]
    repeat' (first|refine Ga0 fun _=>?_|refine Ga1 ?_|refine Ga2 (fun _=>?_) fun _=>?_|refine Ga3 ?_|refine Ga4 fun _=>?_|fail)
    exact bodyK.retD L (Res.one Tryz.results178) ⟨rfl, rfl⟩
  ·rw [no (fun hn => h2 hn.2.1)]
   repeat' (first|refine Ga0 fun _=>?_|refine Ga1 ?_|refine Ga2 (fun _=>?_) fun _=>?_|refine Ga3 ?_|refine Ga4 fun _=>?_|fail)
   exact bodyK.retD L (Res.one Tryz.results178) ⟨rfl, rfl⟩
 ·rw [no (fun hn => h1 hn.1)]
  repeat' (first|refine Ga0 fun _=>?_|refine Ga1 ?_|refine Ga2 (fun _=>?_) fun _=>?_|refine Ga3 ?_|refine Ga4 fun _=>?_|fail)
  exact bodyK.retD L (Res.one Tryz.results178) ⟨rfl, rfl⟩
theorem rooms_bound {l : List Pc} (h : ∀ p ∈ l, PcOk p) : 0 ≤ (l.map Pc.room).sum := by
 induction l with
 | nil => simp
 | cons p l ih =>
  have := ih fun q hq => h q (List.mem_cons_of_mem _ hq)
  have := (h p (List.mem_cons_self ..)).room
  simp only [List.map_cons, List.sum_cons]
  omega
theorem modelSum (bm bp : Nat) (m : Mod) (hwf : WF m) (D L : Chunk) [hm : InC L bm (.cells (mcells m bp).toArray 142 (0, 0))] [hD : MemC D L] (hr : MRest D bp m) :
  Fn1 Tryz.prog 127 [.pointer (some ⟨bm, 0, none⟩)] L (fun u L' => u = .int .i64 m.charge ∧ L = L') := by
 intro w0; refine Spec.enter1 Tryz.func127 rfl Tryz.ntmps127 (by decide) ?_
 obtain ⟨es, c, zs, h1, hk, hz, hp⟩ := hr
 have h1' : InC L bp (.map es.toArray c) := ⟨hD.out _ h1.out⟩
 have hm' := hm
 have hch : ((zs.map (·.2)).map Pc.room).sum = m.charge := sum_perm hp
 have hok : ∀ z ∈ zs, PcOk z.2 := fun z hz' => hwf.ok z.2 (hp.mem_iff.1 (List.mem_map.2 ⟨z, hz', rfl⟩))
 have hq := hwf.charge
 have hq1 := hwf.quota1
 repeat' (first|refine Ga0 fun _=>?_|refine Ga1 ?_|refine Ga2 (fun _=>?_) fun _=>?_|refine Ga3 ?_|refine Ga4 fun _=>?_|fail)
 rename_i r
 refine CW.loop (fun k ρ ds L' => ds = [] ∧ (∃ X tz seen n, L' = X ++ ((r, .mapIter (some bp) c seen c) :: L) ∧ LeftZ zs seen tz ∧ k = tz.length ∧ (∀ z ∈ tz, z ∈ zs) ∧ 0 ≤ n ∧ n + ((tz.map (·.2)).map Pc.room).sum = m.charge ∧ Ev ρ 2 (.int .i64 n)) ∧ Ev ρ 9 (.pointer (some ⟨r, 0, none⟩))) zs.length
  ⟨rfl, ⟨[], zs, #[], 0, rfl, LeftZ.init zs, rfl, fun _ h => h, Int.le_refl _, by rw [Int.zero_add]; exact hch, ii⟩, ii⟩ ?_
 rintro k ρ ds L' ⟨rfl, ⟨X, tz, seen, n, rfl, hl, rfl, hmem, hn0, hn, e2⟩, e9⟩
 repeat' (first|refine Ga0 fun _=>?_|refine Ga1 ?_|refine Ga2 (fun _=>?_) fun _=>?_|refine Ga3 ?_|refine Ga4 fun _=>?_|fail)
 refine OW.nextZ (r := r) (m := bp) (since := c) (c0 := c) (clock := c) (seen := seen) (es := es) (zs := zs) hk hz.es hl (fun e he => hk.old e he) (Nat.le_refl _) (fun h => ?_) (fun A z B htz hz' hl' => ?_)
 ·subst h
  simp only [List.map_nil, List.sum_nil, Int.add_zero] at hn
  subst hn
  repeat' (first|refine Ga0 fun _=>?_|refine Ga1 ?_|refine Ga2 (fun _=>?_) fun _=>?_|refine Ga3 ?_|refine Ga4 fun _=>?_|fail)
  exact bodyK.retD L (Res.one Tryz.results127) ⟨rfl, rfl⟩
 ·obtain ⟨_, v, hzv, hrd⟩ := hz.at_ z hz'
  have sv := hrd.sng
  have hze : z.1 ∈ es := by rw [hz.es]; exact List.mem_map.2 ⟨z, hz', rfl⟩
  have okz := (hok z hz').room
  have hb := rooms_bound (l := (A ++ B).map (·.2)) (fun p hp => by
   obtain ⟨y, hy, rfl⟩ := List.mem_map.1 hp
   exact hok y (hmem y (by rw [htz]; rcases List.mem_append.1 hy with h | h; exact List.mem_append_left _ h; exact List.mem_append_right _ (List.mem_cons_of_mem _ h))))
  have hs : ((tz.map (·.2)).map Pc.room).sum = z.2.room + (((A ++ B).map (·.2)).map Pc.room).sum := by
   rw [htz]; simp only [List.map_append, List.map_cons, List.sum_append, List.sum_cons]; omega
  rw [hs] at hn
  repeat' (first|refine Ga0 fun _=>?_|refine Ga1 ?_|refine Ga2 (fun _=>?_) fun _=>?_|refine Ga3 ?_|refine Ga4 fun _=>?_|fail)
  refine OW.entryE (r := r) (m := bp) (since := c) (c := c) (seen := seen) (e := z.1) hk hze ?_
  rw [hzv]
  repeat' (first|refine Ga0 fun _=>?_|refine Ga1 ?_|refine Ga2 (fun _=>?_) fun _=>?_|refine Ga3 ?_|refine Ga4 fun _=>?_|fail)
  refine ⟨(A ++ B).length, by rw [htz]; simp, rfl, ⟨_ :: X, A ++ B, _, _, rfl, hl', rfl, fun y hy => hmem y ?_, by omega, ?_, ii⟩, ii⟩
  ·rw [htz]
   rcases List.mem_append.1 hy with h | h
   ·exact List.mem_append_left _ h
   ·exact List.mem_append_right _ (List.mem_cons_of_mem _ h)
  ·omega
theorem mapsClone (bp c : Nat) (es : List MapEntry) (L : Chunk) [h1 : InC L bp (.map es.toArray c)] : Fn1 Tryz.prog 126 [.map (some bp)] L
  (fun u L' => ∃ b, u = .map (some b) ∧ L' = (b, .map es.toArray c) :: L) := by
 intro w0; refine Spec.enter1 Tryz.func126 rfl Tryz.ntmps126 (by decide) ?_
 have h1' := h1
 repeat' (first|refine Ga0 fun _=>?_|refine Ga1 ?_|refine Ga2 (fun _=>?_) fun _=>?_|refine Ga3 ?_|fail)
 refine OW.mapClone (m := bp) (c := c) (es := es) Tryz.func167 (by kernel_rfl) (by kernel_rfl) (by kernel_rfl) (by kernel_rfl) (fun b => ?_)
 repeat' (first|refine Ga0 fun _=>?_|refine Ga1 ?_|refine Ga2 (fun _=>?_) fun _=>?_|refine Ga3 ?_|fail)
 exact bodyK.ret (Res.one Tryz.results126) ⟨b, rfl, rfl⟩
theorem modelWith (bm bp c : Nat) (m : Mod) (es : List MapEntry) (fv : Value) [sf : Sng fv] (L : Chunk) (Q : List MapEntry → Nat → Chunk → Prop) [hm : InC L bm (.cells (mcells m bp).toArray 142 (0, 0))] [h1 : InC L bp (.map es.toArray c)]
  (hf : ∀ b, VP Tryz.prog fv [.map (some b)] ((b, .map es.toArray c) :: L) (fun _ L' => ∃ N es' c', L' = N ++ ((b, .map es'.toArray c') :: L) ∧ Q es' c' N) noPanic) :
  Fn1 Tryz.prog 64 [.pointer (some ⟨bm, 0, none⟩), fv] L (fun u L' => ∃ bn b N es' c', u = .pointer (some ⟨bn, 0, none⟩) ∧ L' = (bn, .cells (mcells m b).toArray 142 (0, 0)) :: (N ++ ((b, .map es'.toArray c') :: L)) ∧ Q es' c' N) := by
 intro w0; refine Spec.enter2 Tryz.func64 rfl Tryz.ntmps64 (by decide) ?_
 have z3:DrP 3 [0,1,2,3,4,5,6,7,8,9,10,11]:=⟨⟨⟩⟩
 have hm' := hm
 repeat' (first|refine Gi0 fun _=>?_|refine Gi1 ?_|refine Gi2 (fun _=>?_) fun _=>?_|refine Gi3 ?_|refine Gi4 fun _=>?_|fail)
 refine OW.call (mapsClone bp c es _) ?_
 rintro _ _ ⟨b, rfl, rfl⟩
 repeat' (first|refine Gi0 fun _=>?_|refine Gi1 ?_|refine Gi2 (fun _=>?_) fun _=>?_|refine Gi3 ?_|refine Gi4 fun _=>?_|fail)
 refine OW.callV1 (hf b) ?_
 rintro _ _ ⟨N, es', c', rfl, hq⟩
 have hm2 : InC (N ++ ((b, .map es'.toArray c') :: L)) bm (.cells (mcells m bp).toArray 142 (0, 0)) := ii
 repeat' (first|refine Gi0 fun _=>?_|refine Gi1 ?_|refine Gi2 (fun _=>?_) fun _=>?_|refine Gi3 ?_|refine Gi4 fun _=>?_|fail)
 exact bodyK.ret (Res.one Tryz.results64) ⟨_, b, N, es', c', rfl, rfl, hq⟩
theorem fitsOne (p : Pc) (v : Value) [sv : Sng v] (h : PcOk p) (a e : Int) (ha : 0 ≤ a ∧ a ≤ 4294967295) (b1 b2 : Nat) (L : Chunk) [h1 : InC L b1 (.cells #[.int .u32 a] 46 (0, 0))] [h2 : InC L b2 (.cells #[.int .i64 e] 3 (0, 0))] :
  Fn1 Tryz.prog 243 [pcV p v, .pointer (some ⟨b1, 0, none⟩), .pointer (some ⟨b2, 0, none⟩)] L (fun u L' => u = .bool (decide (a < p.ad + p.room ∧ p.ad < e)) ∧ L = L') := by
 intro w0; refine Spec.enter3 Tryz.func243 rfl Tryz.ntmps243 (by decide) ?_
 have z1:DrP 1 [0,1,2,3,4,5,6,7,8,9,10,11,12,13]:=⟨⟨⟩⟩
 have g1 := h1
 have g2 := h2
 have i1 := h.ad
 have i2 := h.room
 have i3 := h.fin
 repeat' (first|refine Gi0 fun _=>?_|refine Gi1 ?_|refine Gi2 (fun _=>?_) fun _=>?_|refine Gi3 ?_|refine Gi4 fun _=>?_|fail)
 refine RW.call (pieceEnd p v h _) ?_
 rintro _ _ ⟨rfl, rfl⟩
 refine pinAll ?_
 repeat' (first|refine Gi0 fun _=>?_|refine Gi1 ?_|refine Gi2 (fun _=>?_) fun _=>?_|refine Gi3 ?_|refine Gi4 fun _=>?_|fail)
 all_goals exact bodyK.retD L (Res.one Tryz.results243) ⟨(congrArg Value.bool (by first | exact (decide_eq_true (by omega)).symm | exact (decide_eq_false (by omega)).symm)), rfl⟩
@[reducible] def nV (x : NeedM) : Value := .agg #[.bool x.small, .int .i64 x.cls, .int .i64 x.pages, .int .i64 x.charge]
theorem modelFits (bm bp : Nat) (m : Mod) (hwf : WF m) (x : NeedM) (mult a : Int) (hx : 16 ≤ x.charge ∧ x.charge ≤ 262144) (hmu : 0 < mult ∧ mult ≤ 256) (ha : 0 ≤ a ∧ a ≤ 4294967295) (D L : Chunk) [hm : InC L bm (.cells (mcells m bp).toArray 142 (0, 0))] [hD : MemC D L] (hr : MRest D bp m) :
  Fn1 Tryz.prog 218 [.pointer (some ⟨bm, 0, none⟩), nV x, .int .u64 mult, .int .u32 a] L (fun u L' => u = .bool (decide (fitsP m.slot m.L x mult a)) ∧ L = L') := by
 intro w0; refine Spec.enter4 Tryz.func218 rfl Tryz.ntmps218 (by decide) ?_
 have z8:DrP 8 [0,1,2,3,4,5,6,7,8,9,10,11,12,13]:=⟨⟨⟩⟩
 have hm' := hm
 obtain ⟨es, c, zs, h1, hk, hz, hp⟩ := hr
 have h1' : InC L bp (.map es.toArray c) := ⟨hD.out _ h1.out⟩
 obtain ⟨x1, x2⟩ := hx
 obtain ⟨m1, m2⟩ := hmu
 obtain ⟨a1, a2⟩ := ha
 have no : ∀ {q : Prop} [Decidable q], (fitsP m.slot m.L x mult a → q) → ¬ q → decide (fitsP m.slot m.L x mult a) = false := fun h hq => decide_eq_false fun hh => hq (h hh)
 by_cases c1 : a % 16 = 0
 ·by_cases c2 : a % mult = 0
  ·by_cases c3 : a + x.charge ≤ 16777216
   ·repeat' (first|refine Gj0 fun _=>?_|refine Gj1 ?_|refine Gj2 (fun _=>?_) fun _=>?_|refine Gj3 ?_|refine Gj4 fun _=>?_|fail)
    rename_i b5 b7 b9
    refine CW.count (pagesN a x.charge) (fun i ρ ds L' => ds = [] ∧ (∃ X, L' = X ++ ((b9, .cells #[.int .i64 (a + x.charge)] 3 (0, 0)) :: (b7, .cells #[.int .u32 a] 46 (0, 0)) :: (b5, .cells #[.bool x.small, .int .i64 x.cls, .int .i64 x.pages, .int .i64 x.charge] 232 (0, 0)) :: L)) ∧
     (∀ j : Nat, j < i → site (a / 256 + j) = (if x.small then 2 else 3, m.slot)) ∧ Ev ρ 0 (.pointer (some ⟨bm, 0, none⟩)) ∧ Ev ρ 5 (.pointer (some ⟨b5, 0, none⟩)) ∧ Ev ρ 7 (.pointer (some ⟨b7, 0, none⟩)) ∧ Ev ρ 9 (.pointer (some ⟨b9, 0, none⟩)) ∧ Ev ρ 10 (.int .i64 (a / 256 + (i : Int))))
     ⟨rfl, ⟨[], rfl⟩, fun j hj => absurd hj (Nat.not_lt_zero j), ii, ii, ii, ii, by rw [show a / 256 + ((0 : Nat) : Int) = a / 256 by omega]; infer_instance⟩ ?_
    rintro i ρ ds L' hi ⟨rfl, ⟨X, rfl⟩, hpg, e0, e5, e7, e9, e10⟩
    have hN : pagesN a x.charge = ((a + x.charge - 1) / 256 - a / 256 + 1).toNat := rfl
    by_cases hlt : i < pagesN a x.charge
    ·have hlt2 : (a / 256 + (i : Int)) * 256 < a + x.charge := by omega
     repeat' (first|refine Gj0 fun _=>?_|refine Gj1 ?_|refine Gj2 (fun _=>?_) fun _=>?_|refine Gj3 ?_|refine Gj4 fun _=>?_|fail)
     refine OW.call (windowOf (a / 256 + (i : Int)) (by omega) _) ?_
     rintro _ _ ⟨⟨cc, q, rfl⟩, rfl⟩
     generalize hs : site (a / 256 + (i : Int)) = st
     by_cases hk1 : st.1 = if x.small then 2 else 3
     ·by_cases hk2 : st.2 = m.slot
      ·repeat' (first|refine Gj0 fun _=>?_|refine Gj1 ?_|refine Gj2 (fun _=>?_) fun _=>?_|refine Gj3 ?_|refine Gj4 fun _=>?_|fail)
       refine RW.call (modelKind x _) ?_
       rintro _ _ ⟨rfl, rfl⟩
       refine pinAll ?_
       rw [← hk1]
       repeat' (first|refine Gj0 fun _=>?_|refine Gj1 ?_|refine Gj2 (fun _=>?_) fun _=>?_|refine Gj3 ?_|refine Gj4 fun _=>?_|fail)
       refine ⟨hlt, rfl, ⟨_ :: X, rfl⟩, fun j hj => ?_, ii, ii, ii, ii, by rw [show a / 256 + ((i + 1 : Nat) : Int) = a / 256 + (i : Int) + 1 by omega]; infer_instance⟩
       by_cases hji : j = i
       ·subst hji; rw [hs]; exact Prod.ext rfl hk2
       ·exact (hpg j (by omega)).trans (by rw [hk1])
      ·rw [no (q := site (a / 256 + (i : Int)) = (if x.small then 2 else 3, m.slot)) (fun h => h.2.2.2.1 i hlt) (fun h => hk2 (by rw [← hs, h]))]
       repeat' (first|refine Gj0 fun _=>?_|refine Gj1 ?_|refine Gj2 (fun _=>?_) fun _=>?_|refine Gj3 ?_|refine Gj4 fun _=>?_|fail)
       refine RW.call (modelKind x _) ?_
       rintro _ _ ⟨rfl, rfl⟩
       refine pinAll ?_
       rw [← hk1]
       repeat' (first|refine Gj0 fun _=>?_|refine Gj1 ?_|refine Gj2 (fun _=>?_) fun _=>?_|refine Gj3 ?_|refine Gj4 fun _=>?_|fail)
       exact bodyK.retD L (Res.one Tryz.results218) ⟨rfl, rfl⟩
     ·rw [no (q := site (a / 256 + (i : Int)) = (if x.small then 2 else 3, m.slot)) (fun h => h.2.2.2.1 i hlt) (fun h => hk1 (by rw [← hs, h]))]
      repeat' (first|refine Gj0 fun _=>?_|refine Gj1 ?_|refine Gj2 (fun _=>?_) fun _=>?_|refine Gj3 ?_|refine Gj4 fun _=>?_|fail)
      refine RW.call (modelKind x _) ?_
      rintro _ _ ⟨rfl, rfl⟩
      refine pinAll ?_
      repeat' (first|refine Gj0 fun _=>?_|refine Gj1 ?_|refine Gj2 (fun _=>?_) fun _=>?_|refine Gj3 ?_|refine Gj4 fun _=>?_|fail)
      exact bodyK.retD L (Res.one Tryz.results218) ⟨rfl, rfl⟩
    ·obtain rfl : i = pagesN a x.charge := by omega
     have hge : ¬ ((a / 256 + ((pagesN a x.charge : Nat) : Int)) * 256 < a + x.charge) := by omega
     repeat' (first|refine Gj0 fun _=>?_|refine Gj1 ?_|refine Gj2 (fun _=>?_) fun _=>?_|refine Gj3 ?_|refine Gj4 fun _=>?_|fail)
     refine OW.call (mapsValues bp _) ?_
     rintro _ _ ⟨bx, rfl, rfl⟩
     repeat' (first|refine Gj0 fun _=>?_|refine Gj1 ?_|refine Gj2 (fun _=>?_) fun _=>?_|refine Gj3 ?_|refine Gj4 fun _=>?_|fail)
     refine OW.call (modelFound bx bp c es zs (fun p => decide (a < p.ad + p.room ∧ p.ad < a + x.charge)) _ _ hk hz.to (fun z hz' v hzv sv L' hm => ?_)) ?_
     ·exact FnP.vp (first := #[]) (cap := #[.pointer (some ⟨b7, 0, none⟩), .pointer (some ⟨b9, 0, none⟩)]) (@fitsOne z.2 v sv (hwf.ok z.2 (hp.mem_iff.1 (List.mem_map.2 ⟨z, hz', rfl⟩))) a (a + x.charge) ⟨a1, a2⟩ b7 b9 L' ⟨hm.out _ (by simp)⟩ ⟨hm.out _ (by simp)⟩)
     ·rintro _ _ ⟨hres, rfl⟩
      rcases hres with ⟨z, hz', hq, rfl⟩ | ⟨hq, rfl⟩
      ·obtain ⟨_, v, hzv, hrd⟩ := hz.at_ z hz'
       have sv := hrd.sng
       rw [hzv, no (fun h => h.2.2.2.2 z.2 (hp.mem_iff.1 (List.mem_map.2 ⟨z, hz', rfl⟩))) (fun h => h (of_decide_eq_true hq))]
       repeat' (first|refine Gj0 fun _=>?_|refine Gj1 ?_|refine Gj2 (fun _=>?_) fun _=>?_|refine Gj3 ?_|refine Gj4 fun _=>?_|fail)
       exact bodyK.retD L (Res.one Tryz.results218) ⟨rfl, rfl⟩
      ·have hyes : fitsP m.slot m.L x mult a := ⟨c1, c2, c3, hpg, fun p hp' => by
        obtain ⟨z, hz', rfl⟩ := List.mem_map.1 (hp.mem_iff.2 hp')
        exact of_decide_eq_false (hq z hz')⟩
       rw [decide_eq_true hyes]
       repeat' (first|refine Gj0 fun _=>?_|refine Gj1 ?_|refine Gj2 (fun _=>?_) fun _=>?_|refine Gj3 ?_|refine Gj4 fun _=>?_|fail)
       exact bodyK.retD L (Res.one Tryz.results218) ⟨rfl, rfl⟩
   ·rw [no (fun h => h.2.2.1) c3]
    repeat' (first|refine Gj0 fun _=>?_|refine Gj1 ?_|refine Gj2 (fun _=>?_) fun _=>?_|refine Gj3 ?_|refine Gj4 fun _=>?_|fail)
    exact bodyK.retD L (Res.one Tryz.results218) ⟨rfl, rfl⟩
  ·rw [no (fun h => h.2.1) c2]
   repeat' (first|refine Gj0 fun _=>?_|refine Gj1 ?_|refine Gj2 (fun _=>?_) fun _=>?_|refine Gj3 ?_|refine Gj4 fun _=>?_|fail)
   exact bodyK.retD L (Res.one Tryz.results218) ⟨rfl, rfl⟩
 ·rw [no (fun h => h.1) c1]
  repeat' (first|refine Gj0 fun _=>?_|refine Gj1 ?_|refine Gj2 (fun _=>?_) fun _=>?_|refine Gj3 ?_|refine Gj4 fun _=>?_|fail)
  exact bodyK.retD L (Res.one Tryz.results218) ⟨rfl, rfl⟩
@[reducible] def wcells (x : NeedM) (size mult less : Int) (vB : Value) : List Value := [.bool x.small, .int .i64 x.cls, .int .i64 x.pages, .int .i64 x.charge, .int .u64 size, .int .u64 mult, .int .i64 less, vB]
@[reducible] def ocells (o : OutM) (vb : Value) : List Value := [.int .i64 o.errno, .int .u32 o.ad, .int .i64 o.n, vb]
theorem hand1 (b bw bo c : Nat) (es : List MapEntry) (x : NeedM) (size mult less : Int) (o : OutM) (vb vB : Value) (bs : List Int) (L : Chunk) [hw : InC L bw (.cells (wcells x size mult less vB).toArray 289 (0, 0))] [ho : InC L bo (.cells (ocells o vb).toArray 56 (0, 0))] (sb : Sng vb)
  (hk : KV .u32 es c) (hno : findI es o.ad = none) (hB : Rd L 1 vB bs.length (iv bs)) (hx : 16 ≤ x.charge ∧ x.charge ≤ 262144) (hbl : (bs.length : Int) ≤ x.charge) (hs : 0 ≤ size ∧ size ≤ 262144) :
  Fn1 Tryz.prog 219 [.map (some b), .pointer (some ⟨bw, 0, none⟩), .pointer (some ⟨bo, 0, none⟩)] ((b, .map es.toArray c) :: L)
   (fun _ L' => ∃ N v, L' = N ++ ((b, .map (es ++ [MapEntry.mk (.int .u32 o.ad) (pcV (piece o.ad size x.charge bs) v) c]).toArray (c + 1)) :: L) ∧ Rd N 1 v (piece o.ad size x.charge bs).b.length (iv (piece o.ad size x.charge bs).b)) := by
 intro w0; refine Spec.enter3 Tryz.func219 rfl Tryz.ntmps219 (by decide) ?_
 have z0:DrP 0 [0,1,3,4,5,6,7,8,9,2,10,11,12]:=⟨⟨⟩⟩
 have hw' := hw
 have ho' := ho
 have svB := hB.sng
 obtain ⟨aB, cB, rfl, hcB⟩ := hB.isSlice
 obtain ⟨x1, x2⟩ := hx
 obtain ⟨s1, s2⟩ := hs
 repeat' (first|refine Gi0 fun _=>?_|refine Gi1 ?_|refine Gi2 (fun _=>?_) fun _=>?_|refine Gi3 ?_|fail)
 refine RW.call (cloneI _ bs _ hB.to (by omega)) ?_
 rintro v1 _ ⟨N1, rfl, hrow⟩
 have sv1 := hrow.sng
 refine pinOld ?_
 repeat' (first|refine Gi0 fun _=>?_|refine Gi1 ?_|refine Gi2 (fun _=>?_) fun _=>?_|refine Gi3 ?_|fail)
 obtain ⟨k, hk'⟩ : ∃ k : Nat, x.charge - (bs.length : Int) = (k : Int) := ⟨_, (Int.toNat_of_nonneg (by omega)).symm⟩
 rw [hk']
 refine RW.call (modelFilled (-1) k (by omega) _) ?_
 rintro _ _ ⟨bf, rfl, rfl⟩
 refine pinOld ?_
 repeat' (first|refine Gi0 fun _=>?_|refine Gi1 ?_|refine Gi2 (fun _=>?_) fun _=>?_|refine Gi3 ?_|fail)
 have hrf : Rd ((bf, Obj.cells (List.replicate k (Value.int .i64 (-1))).toArray 3 (0, 0)) :: (N1 ++ ((b, .map es.toArray c) :: L))) 1 (.slice (some ⟨bf, 0, none⟩) k k) k (List.replicate k (Value.int .i64 (-1))) := Rd.blk (by simp) (Nat.le_refl _)
 refine RW.append hrow ii hrf (fun v hv => by rw [(List.mem_replicate.1 hv).2]; infer_instance) (by omega) (fun v' N' hrow' => pinOld ?_)
 have sv' := hrow'.sng
 repeat' (first|refine Gi0 fun _=>?_|refine Gi1 ?_|refine Gi2 (fun _=>?_) fun _=>?_|refine Gi3 ?_|fail)
 refine OW.mapNew (k := .u32) (j := o.ad) (m := b) (c := c) (es := es) hk hno ?_
 repeat' (first|refine Gi0 fun _=>?_|refine Gi1 ?_|refine Gi2 (fun _=>?_) fun _=>?_|refine Gi3 ?_|fail)
 have hkt : (x.charge - (bs.length : Int)).toNat = k := by omega
 refine bodyK.nrmD (N' ++ ((b, .map (es ++ [MapEntry.mk (.int .u32 o.ad) (.agg #[.int .u32 o.ad, .int .i64 (max 1 size), .int .i64 x.charge, v']) c]).toArray (c + 1)) :: L)) (Res.zero Tryz.results219) ⟨N', v', rfl, ?_⟩
 have hrd := hrow'.rd
 have e1 : (piece o.ad size x.charge bs).b = bs ++ List.replicate k (-1) := by unfold piece; rw [hkt]
 rw [e1]
 simpa [iv] using hrd
def RowR (D L : Chunk) (r : Mod × Bool) (u : Value) (L' : Chunk) : Prop :=
 ∃ N bn b2, u = .tuple #[.pointer (some ⟨bn, 0, none⟩), .bool r.2] ∧ L' = N ++ L ∧ (r.2 = true → InC L' bn (.cells (mcells r.1 b2).toArray 142 (0, 0)) ∧ MRest (N ++ D) b2 r.1)
theorem RowR.same {D L : Chunk} {m : Mod} {bm bp : Nat} (hm : InC L bm (.cells (mcells m bp).toArray 142 (0, 0))) (hr : MRest D bp m) {r : Mod × Bool} (h : r.2 = true → r.1 = m) : RowR D L r (.tuple #[.pointer (some ⟨bm, 0, none⟩), .bool r.2]) L :=
 ⟨[], bm, bp, rfl, rfl, fun e => by rw [h e]; exact ⟨hm, hr⟩⟩
theorem Zs.add {D N : Chunk} {es : List MapEntry} {zs : List (MapEntry × Pc)} {e : MapEntry} {p : Pc} (h : Zs D es zs) (he : PcAt N e p) : Zs (N ++ D) (es ++ [e]) (zs ++ [(e, p)]) :=
 ⟨by rw [h.es]; simp, fun z hz => by
  rcases List.mem_append.1 hz with hz | hz
  ·exact (h.at_ z hz).to
  ·rw [List.mem_singleton.1 hz]; exact he.to⟩
def HandR (bm : Nat) (m : Mod) (D L : Chunk) (x : NeedM) (size mult less : Int) (o : OutM) (bs : List Int) (u : Value) (L' : Chunk) : Prop :=
 (u = .tuple #[.pointer (some ⟨bm, 0, none⟩), .bool (handed m x size mult less o bs).2] ∧ L' = L ∧ ((handed m x size mult less o bs).2 = true → o.errno ≠ 0)) ∨
 (o.errno = 0 ∧ (handed m x size mult less o bs).2 = true ∧ ∃ bn b N es c zs, u = .tuple #[.pointer (some ⟨bn, 0, none⟩), .bool true] ∧ L' = (bn, .cells (mcells m b).toArray 142 (0, 0)) :: (N ++ ((b, .map (List.toArray es) c) :: L)) ∧
  KV .u32 es c ∧ Zs (N ++ D) es zs ∧ (zs.map (·.2)).Perm (ins (piece o.ad size x.charge bs) m.L))
theorem modelHand (bm bp : Nat) (m : Mod) (hwf : WF m) (x : NeedM) (size mult less : Int) (o : OutM) (vb vB : Value) (bs : List Int) (D L : Chunk) [hm : InC L bm (.cells (mcells m bp).toArray 142 (0, 0))] [hD : MemC D L] (hr : MRest D bp m)
  (hb : BS L vb o.bytes) (hor : OutR o) (hB : Rd L 1 vB bs.length (iv bs)) (hx : 16 ≤ x.charge ∧ x.charge ≤ 262144) (hbl : (bs.length : Int) ≤ x.charge) (hs : 0 ≤ size ∧ size ≤ 262144) (hmu : 0 < mult ∧ mult ≤ 256) (hle : 0 ≤ less ∧ less ≤ 16777216) :
  Fn1 Tryz.prog 179 [.pointer (some ⟨bm, 0, none⟩), .agg (wcells x size mult less vB).toArray, outV o vb] L (HandR bm m D L x size mult less o bs) := by
 intro w0; refine Spec.enter3 Tryz.func179 rfl Tryz.ntmps179 (by decide) ?_
 have z2:DrP 2 [0,2,3,5,6,7,9,10,11,12,1,4,8,13]:=⟨⟨⟩⟩
 have hm' := hm
 have svB := hB.sng
 have svb := hb.sng
 obtain ⟨x1, x2⟩ := hx
 obtain ⟨l1, l2⟩ := hle
 have hch := hwf.charge
 have hq1 := hwf.quota1
 have hq0 := hwf.quota0
 have hch0 : 0 ≤ m.charge := rooms_bound hwf.ok
 repeat' (first|refine Gm0 fun _=>?_|refine Gm1 ?_|refine Gm2 (fun _=>?_) fun _=>?_|refine Gm3 ?_|refine Gm4 fun _=>?_|fail)
 rename_i bw bo
 refine RW.call (modelSum bm bp m hwf D _ hr) ?_
 rintro _ _ ⟨rfl, rfl⟩
 refine pinAll ?_
 by_cases hq : m.quota < m.charge - less + x.charge
 ·have e : handed m x size mult less o bs = (m, decide (bareO o [301])) := by unfold handed; rw [if_pos hq]
  repeat' (first|refine Gm0 fun _=>?_|refine Gm1 ?_|refine Gm2 (fun _=>?_) fun _=>?_|refine Gm3 ?_|refine Gm4 fun _=>?_|fail)
  refine OW.call (modelBare o vb _ [301] _ hb.to (Rd.blk (l := iv [301]) rfl (Nat.le_refl _)) (by decide)) ?_
  rintro _ _ ⟨rfl, rfl⟩
  generalize hbb : decide (bareO o [301]) = bb at e ⊢
  repeat' (first|refine Gm0 fun _=>?_|refine Gm1 ?_|refine Gm2 (fun _=>?_) fun _=>?_|refine Gm3 ?_|refine Gm4 fun _=>?_|fail)
  exact bodyK.retD L (Res.two Tryz.results179) (.inl ⟨by rw [e], rfl, fun h => by
   rw [e] at h
   have h : bb = true := h
   rw [← hbb, decide_eq_true_eq] at h
   have := h.2
   simp only [List.mem_singleton] at this
   omega⟩)
 ·have fail : ∀ {q : Bool}, handed m x size mult less o bs = (m, q) → o.errno = 0 → q = false → HandR bm m D L x size mult less o bs (.tuple #[.pointer (some ⟨bm, 0, none⟩), .bool false]) L := fun e h0 hq => .inl ⟨by rw [e, hq], rfl, fun h => by rw [e, hq] at h; cases h⟩
  by_cases he : o.errno ≠ 0
  ·have e : handed m x size mult less o bs = (m, decide (bareO o [171, if x.small then 261 else 270])) := by unfold handed; rw [if_neg hq, if_pos he]
   cases hsm : x.small with
   | false =>
    rw [hsm] at e
    repeat' (first|refine Gm0 fun _=>?_|refine Gm1 ?_|refine Gm2 (fun _=>?_) fun _=>?_|refine Gm3 ?_|refine Gm4 fun _=>?_|fail)
    rw [hsm]
    repeat' (first|refine Gm0 fun _=>?_|refine Gm1 ?_|refine Gm2 (fun _=>?_) fun _=>?_|refine Gm3 ?_|refine Gm4 fun _=>?_|fail)
    refine OW.call (modelBare o vb _ [171, 270] _ hb.to (Rd.blk (l := iv [171, 270]) rfl (Nat.le_refl _)) (by decide)) ?_
    rintro _ _ ⟨rfl, rfl⟩
    simp only [Bool.false_eq_true, if_false] at e
    generalize hbb : decide (bareO o [171, 270]) = bb at e ⊢
    repeat' (first|refine Gm0 fun _=>?_|refine Gm1 ?_|refine Gm2 (fun _=>?_) fun _=>?_|refine Gm3 ?_|refine Gm4 fun _=>?_|fail)
    exact bodyK.retD L (Res.two Tryz.results179) (.inl ⟨by rw [e], rfl, fun _ => he⟩)
   | true =>
    rw [hsm] at e
    repeat' (first|refine Gm0 fun _=>?_|refine Gm1 ?_|refine Gm2 (fun _=>?_) fun _=>?_|refine Gm3 ?_|refine Gm4 fun _=>?_|fail)
    rw [hsm]
    repeat' (first|refine Gm0 fun _=>?_|refine Gm1 ?_|refine Gm2 (fun _=>?_) fun _=>?_|refine Gm3 ?_|refine Gm4 fun _=>?_|fail)
    refine OW.call (modelBare o vb _ [171, 261] _ hb.to (Rd.blk (l := iv [171, 261]) rfl (Nat.le_refl _)) (by decide)) ?_
    rintro _ _ ⟨rfl, rfl⟩
    simp only [if_true] at e
    generalize hbb : decide (bareO o [171, 261]) = bb at e ⊢
    repeat' (first|refine Gm0 fun _=>?_|refine Gm1 ?_|refine Gm2 (fun _=>?_) fun _=>?_|refine Gm3 ?_|refine Gm4 fun _=>?_|fail)
    exact bodyK.retD L (Res.two Tryz.results179) (.inl ⟨by rw [e], rfl, fun _ => he⟩)
  ·have he0 : o.errno = 0 := by omega
   have eh : handed m x size mult less o bs = if o.n = 0 ∧ o.bytes = [] ∧ fitsP m.slot m.L x mult o.ad then ({ m with L := ins (piece o.ad size x.charge bs) m.L }, true) else (m, false) := by unfold handed; rw [if_neg hq, if_neg he]
   obtain ⟨ao, co, rfl⟩ := hb.slice
   by_cases hn : o.n = 0
   ·by_cases hbl0 : o.bytes.length = 0
    ·have hbn : o.bytes = [] := List.eq_nil_of_length_eq_zero hbl0
     repeat' (first|refine Gm0 fun _=>?_|refine Gm1 ?_|refine Gm2 (fun _=>?_) fun _=>?_|refine Gm3 ?_|refine Gm4 fun _=>?_|fail)
     refine OW.call (modelFits bm bp m hwf x mult o.ad ⟨x1, x2⟩ hmu ⟨hor.ad.1, hor.ad.2⟩ D _ hr) ?_
     rintro _ _ ⟨rfl, rfl⟩
     by_cases hf : fitsP m.slot m.L x mult o.ad
     ·rw [decide_eq_true hf]
      rw [if_pos ⟨hn, hbn, hf⟩] at eh
      obtain ⟨es, c, zs, h1, hk, hz, hp⟩ := hr
      have h1' : InC L bp (.map es.toArray c) := ⟨hD.out _ h1.out⟩
      have hno : findI es o.ad = none := by
       cases hfi : findI es o.ad with
       | none => rfl
       | some v =>
        obtain ⟨z, hz', e1, _⟩ := hz.find hk hfi
        have hzm := hp.mem_iff.1 (List.mem_map.2 ⟨z, hz', rfl⟩)
        have := hf.2.2.2.2 z.2 hzm
        have := (hwf.ok z.2 hzm).room
        omega
      repeat' (first|refine Gm0 fun _=>?_|refine Gm1 ?_|refine Gm2 (fun _=>?_) fun _=>?_|refine Gm3 ?_|refine Gm4 fun _=>?_|fail)
      refine OW.call (modelWith bm bp c m es _ _ (fun es' c' N => ∃ v, es' = es ++ [MapEntry.mk (.int .u32 o.ad) (pcV (piece o.ad size x.charge bs) v) c] ∧ c' = c + 1 ∧ Rd N 1 v (piece o.ad size x.charge bs).b.length (iv (piece o.ad size x.charge bs).b)) (fun b => ?_)) ?_
      ·exact FnP.vp (first := #[]) (cap := #[.pointer (some ⟨bw, 0, none⟩), .pointer (some ⟨bo, 0, none⟩)]) ((hand1 b bw bo c es x size mult less o (.slice ao o.bytes.length co) vB bs _ ii hk hno hB.to ⟨x1, x2⟩ hbl hs).mono (fun _ L' ⟨N, v, e, hrd⟩ => ⟨N, _, _, e, v, rfl, rfl, hrd⟩) (fun _ _ h => h))
      ·rintro _ _ ⟨bn, b, N, _, _, rfl, rfl, v, rfl, rfl, hrd⟩
       repeat' (first|refine Gm0 fun _=>?_|refine Gm1 ?_|refine Gm2 (fun _=>?_) fun _=>?_|refine Gm3 ?_|refine Gm4 fun _=>?_|fail)
       refine bodyK.retD ((bn, .cells (mcells m b).toArray 142 (0, 0)) :: (N ++ ((b, .map (es ++ [MapEntry.mk (.int .u32 o.ad) (pcV (piece o.ad size x.charge bs) v) c]).toArray (c + 1)) :: L))) (Res.two Tryz.results179) (.inr ⟨he0, by rw [eh], bn, b, N, _, _, zs ++ [(MapEntry.mk (.int .u32 o.ad) (pcV (piece o.ad size x.charge bs) v) c, piece o.ad size x.charge bs)], rfl, rfl, hk.add (hk.none_of hno), Zs.add hz ⟨rfl, v, rfl, hrd⟩, ?_⟩)
       rw [List.map_append]
       exact ((List.perm_append_comm).trans (hp.cons _)).trans (ins_perm _ _).symm
     ·rw [decide_eq_false hf]
      rw [if_neg (fun h => hf h.2.2)] at eh
      repeat' (first|refine Gm0 fun _=>?_|refine Gm1 ?_|refine Gm2 (fun _=>?_) fun _=>?_|refine Gm3 ?_|refine Gm4 fun _=>?_|fail)
      exact bodyK.retD L (Res.two Tryz.results179) (fail eh he0 rfl)
    ·rw [if_neg (fun h => hbl0 (by rw [h.2.1]; rfl))] at eh
     repeat' (first|refine Gm0 fun _=>?_|refine Gm1 ?_|refine Gm2 (fun _=>?_) fun _=>?_|refine Gm3 ?_|refine Gm4 fun _=>?_|fail)
     exact bodyK.retD L (Res.two Tryz.results179) (fail eh he0 rfl)
   ·rw [if_neg (fun h => hn h.1)] at eh
    repeat' (first|refine Gm0 fun _=>?_|refine Gm1 ?_|refine Gm2 (fun _=>?_) fun _=>?_|refine Gm3 ?_|refine Gm4 fun _=>?_|fail)
    exact bodyK.retD L (Res.two Tryz.results179) (fail eh he0 rfl)
structure OpR (x : OpM) : Prop where
 kind : inR .i64 x.kind
 ad : inR .u32 x.ad
 size : inR .u64 x.size
 mult : inR .u64 x.mult
 many : inR .u64 x.many
@[reducible] def opV (x : OpM) (vb : Value) : Value := .agg #[.int .i64 x.kind, .int .u32 x.ad, .int .u64 x.size, .int .u64 x.mult, .int .u64 x.many, vb]
theorem handed_ne {m : Mod} {x : NeedM} {size mult less : Int} {o : OutM} {bs : List Int} (he : o.errno ≠ 0) : (handed m x size mult less o bs).1 = m := by
 unfold handed
 by_cases hq : m.quota < m.charge - less + x.charge
 ·rw [if_pos hq]
 ·rw [if_neg hq, if_pos he]
theorem handed_eq {m : Mod} {x : NeedM} {size mult less : Int} {o : OutM} {bs : List Int} (he : o.errno = 0) (h : (handed m x size mult less o bs).2 = true) : (handed m x size mult less o bs).1 = { m with L := ins (piece o.ad size x.charge bs) m.L } := by
 unfold handed at h ⊢
 by_cases hq : m.quota < m.charge - less + x.charge
 ·rw [if_pos hq] at h
  simp only [decide_eq_true_eq, bareO, List.mem_singleton] at h
  omega
 ·rw [if_neg hq, if_neg (by omega)] at h ⊢
  by_cases hf : o.n = 0 ∧ o.bytes = [] ∧ fitsP m.slot m.L x mult o.ad
  ·rw [if_pos hf]
  ·rw [if_neg hf] at h; cases h
theorem HandR.row {bm bp : Nat} {m : Mod} {D L Lb : Chunk} {x : NeedM} {size mult less : Int} {o : OutM} {bs : List Int} {u : Value} {L' : Chunk} (hm : InC L bm (.cells (mcells m bp).toArray 142 (0, 0))) (hr : MRest D bp m) (hs : L.Sublist Lb) (h : HandR bm m D Lb x size mult less o bs u L') :
  ∃ L2, L2.Sublist L' ∧ RowR D L (handed m x size mult less o bs) u L2 := by
 rcases h with ⟨rfl, rfl, h⟩ | ⟨he, h2, bn, b, N, es, c, zs, rfl, rfl, hk, hz, hp⟩
 ·exact ⟨L, hs, RowR.same hm hr fun e => handed_ne (h e)⟩
 ·refine ⟨(bn, .cells (mcells m b).toArray 142 (0, 0)) :: (N ++ ((b, .map es.toArray c) :: L)), (List.Sublist.append (List.Sublist.refl N) (hs.cons₂ _)).cons₂ _, (bn, .cells (mcells m b).toArray 142 (0, 0)) :: (N ++ [(b, .map es.toArray c)]), bn, b, by rw [h2], by simp, fun _ => ?_⟩
  rw [handed_eq he h2]
  refine ⟨⟨by simp⟩, es, c, zs, ⟨by simp⟩, hk, ?_, hp⟩
  have : MemC (N ++ D) ((bn, .cells (mcells m b).toArray 142 (0, 0)) :: (N ++ [(b, .map es.toArray c)]) ++ D) := ⟨fun p hp => by
   simp only [List.mem_append, List.mem_cons] at hp ⊢
   rcases hp with h | h
   ·exact .inl (.inr (.inl h))
   ·exact .inr h⟩
  exact hz.to
instance subSelfC {L : Chunk} : SubC L L := ⟨List.Sublist.refl L⟩
theorem subC_of {L L' : Chunk} [h : SubC L L'] : L.Sublist L' := h.out
theorem modelMalloc (bm bp : Nat) (m : Mod) (hwf : WF m) (x : OpM) (hxr : OpR x) (hk : x.kind = 1) (o : OutM) (vx vb : Value) (sx : Sng vx) (D L : Chunk) [hm : InC L bm (.cells (mcells m bp).toArray 142 (0, 0))] [hD : MemC D L] (hr : MRest D bp m)
  (hb : BS L vb o.bytes) (hor : OutR o) : Fn1 Tryz.prog 147 [.pointer (some ⟨bm, 0, none⟩), opV x vx, outV o vb] L (RowR D L (Md.step m x o)) := by
 intro w0; refine Spec.enter3 Tryz.func147 rfl Tryz.ntmps147 (by decide) ?_
 have hm' := hm
 have svb := hb.sng
 have est : Md.step m x o = match needOf x.size x.mult with | none => (m, decide (bareO o [2])) | some nd => handed m nd x.size x.mult 0 o [] := by unfold Md.step; rw [if_pos hk]; cases needOf x.size x.mult <;> rfl
 repeat' (first|refine Ga0 fun _=>?_|refine Ga1 ?_|refine Ga2 (fun _=>?_) fun _=>?_|refine Ga3 ?_|refine Ga4 fun _=>?_|fail)
 refine OW.call (sizeOf x.size x.mult hxr.size.1 hxr.mult.1 _) ?_
 rintro _ _ ⟨rfl, rfl⟩
 cases hn : needOf x.size x.mult with
 | none =>
  rw [hn] at est
  repeat' (first|refine Ga0 fun _=>?_|refine Ga1 ?_|refine Ga2 (fun _=>?_) fun _=>?_|refine Ga3 ?_|refine Ga4 fun _=>?_|fail)
  refine OW.call (modelBare o vb _ [2] _ hb.to (Rd.blk (l := iv [2]) rfl (Nat.le_refl _)) (by decide)) ?_
  rintro _ _ ⟨rfl, rfl⟩
  generalize hbb : decide (bareO o [2]) = bb at est ⊢
  repeat' (first|refine Ga0 fun _=>?_|refine Ga1 ?_|refine Ga2 (fun _=>?_) fun _=>?_|refine Ga3 ?_|refine Ga4 fun _=>?_|fail)
  refine bodyK.retD L (Res.two Tryz.results147) ?_
  rw [est]
  exact RowR.same (r := (m, bb)) hm hr fun _ => rfl
 | some nd =>
  rw [hn] at est
  obtain ⟨c1, c2, c3⟩ := needOf_charge hn
  have hs : x.size ≤ 262144 ∧ isMult x.mult := by
   unfold needOf at hn
   split at hn
   ·cases hn
   ·rename_i h
    exact ⟨by omega, Classical.byContradiction fun h' => h (.inr h')⟩
  have hmu : 0 < x.mult ∧ x.mult ≤ 256 := by have := hs.2; unfold isMult at this; omega
  repeat' (first|refine Ga0 fun _=>?_|refine Ga1 ?_|refine Ga2 (fun _=>?_) fun _=>?_|refine Ga3 ?_|refine Ga4 fun _=>?_|fail)
  refine OW.call (modelHand bm bp m hwf nd x.size x.mult 0 o vb (.slice none 0 0) [] D _ hr hb.to hor ⟨rfl, .inl ⟨⟨_, _, rfl⟩, rfl⟩⟩ ⟨c2, c3⟩ (by simp only [List.length_nil]; omega) ⟨hxr.size.1, hs.1⟩ hmu (by decide)) ?_
  intro u L' hh
  obtain ⟨L2, hsub, hrow⟩ := hh.row hm hr (subC_of (L := L))
  have est : Md.step m x o = handed m nd x.size x.mult 0 o [] := est
  rw [est]
  generalize handed m nd x.size x.mult 0 o [] = r at hrow
  have hrow' := hrow
  obtain ⟨N, bn, b2, rfl, rfl, _⟩ := hrow'
  have hsc : SubC (N ++ L) L' := ⟨hsub⟩
  repeat' (first|refine Ga0 fun _=>?_|refine Ga1 ?_|refine Ga2 (fun _=>?_) fun _=>?_|refine Ga3 ?_|refine Ga4 fun _=>?_|fail)
  exact bodyK.retD (N ++ L) (Res.two Tryz.results147) hrow
end Go.Proofs.YtmnhooepaemlcaaGreat
