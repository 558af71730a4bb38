/- OrderCalls: true for every input; arguments as before. Part 34. Conditions: none. -/
import Derived.Test.YtmnhooepaemlcaaGreatOC2
import Derived.Test.YtmnhooepaemlcaaGreatOC32
set_option linter.all false
namespace Go.Proofs.YtmnhooepaemlcaaGreat
open Go Go.Pw Go.Pw.Sc Go.Pw.Md
set_option maxRecDepth 100000
set_option maxHeartbeats 4000000
set_option synthInstance.maxHeartbeats 400000
set_option synthInstance.maxSize 2000
attribute [local irreducible] CW OW RW thenK blockK
attribute [local irreducible] scopeK loopK TRW ATW
theorem rReach (m : Mod) (hwf : WF m) (v : Value) (a many : Int) (ha : inR .u32 a) (hm : 0 ≤ many ∧ many ≤ 18446744073709551615) (L : Chunk) (hl : RL L v m.L) : Fn1 Tryz.prog 166 [mV m v, .int .u32 a, .int .u64 many] L
  (fun u L' => (∃ b, u = .tuple #[.int .i64 (reach m a many).1, .bool b] ∧ (reach m a many).2 = if b then [190] else []) ∧ L = L') := by
 obtain ⟨a1, a2⟩ := ha
 obtain ⟨m1, m2⟩ := hm
 have hn := hl.len
 have hl' := hl
 obtain ⟨av, cv, rfl⟩ := hl'.slice
 intro w0; refine Spec.enter3 Tryz.func166 rfl Tryz.ntmps166 (by decide) ?_
 have z6:DrP 6 [0,1,2,3,4,5,6,7,8,9,10,11,12,13,14,15,16,17,18,19,20,21,22,23,24,25]:=⟨⟨⟩⟩
 by_cases c1 : many < 1 ∨ 16777216 < many
 ·have e : reach m a many = (2, []) := by unfold reach; rw [if_pos c1]
  rw [e]
  repeat' (first|refine Gi0 fun _=>?_|refine Gi1 ?_|refine Gi2 (fun _=>?_) fun _=>?_|refine Gi3 ?_|refine Gi4 fun _=>?_|fail)
  all_goals exact bodyK.retD L (Res.of2 Tryz.results166) ⟨⟨false, rfl, rfl⟩, rfl⟩
 ·by_cases c2 : 16777216 - many < a
  ·have e : reach m a many = (4, []) := by unfold reach; rw [if_neg c1, if_pos c2]
   rw [e]
   repeat' (first|refine Gi0 fun _=>?_|refine Gi1 ?_|refine Gi2 (fun _=>?_) fun _=>?_|refine Gi3 ?_|refine Gi4 fun _=>?_|fail)
   exact bodyK.retD L (Res.of2 Tryz.results166) ⟨⟨false, rfl, rfl⟩, rfl⟩
  ·have e : reach m a many = match m.inn a with | some p => if a + many ≤ p.ad + p.room then (0, []) else (0, [190]) | none => (0, [190]) := by unfold reach; rw [if_neg c1, if_neg c2]; rfl
   repeat' (first|refine Gi0 fun _=>?_|refine Gi1 ?_|refine Gi2 (fun _=>?_) fun _=>?_|refine Gi3 ?_|refine Gi4 fun _=>?_|fail)
   refine OW.call (rIn m _ a (by omega) _ (RL.to' hl) hwf.ok) ?_
   rintro _ _ ⟨⟨j, rfl, hj⟩, rfl⟩
   rcases inn_pl hwf hj with ⟨rfl, hi⟩ | ⟨i, hi, rfl, hs, h1, h2⟩
   ·rw [hi] at e
    rw [e]
    repeat' (first|refine Gi0 fun _=>?_|refine Gi1 ?_|refine Gi2 (fun _=>?_) fun _=>?_|refine Gi3 ?_|refine Gi4 fun _=>?_|fail)
    exact bodyK.retD L (Res.of2 Tryz.results166) ⟨⟨true, rfl, rfl⟩, rfl⟩
   ·rw [hs] at e
    obtain ⟨bk, kk, capk, lk, ek, frk, hbe, hbin, hbc, hbn⟩ := hl.open (by omega)
    cases hbe
    obtain ⟨cc, hcut, vq, rfl, hrd⟩ := hbn i hi
    have sq := hrd.sng
    obtain ⟨n0, n1, n2, n3⟩ := cut4 hcut
    have okp := hwf.ok _ (List.getElem_mem hi)
    have o1 := okp.ad
    have o2 := okp.room
    have o3 := okp.fin
    clear hs
    generalize m.L[i] = p at *
    by_cases c3 : a + many ≤ p.ad + p.room
    ·have e : reach m a many = (0, []) := by rw [e]; simp only; rw [if_pos c3]
     rw [e]
     repeat' (first|refine Gi0 fun _=>?_|refine Gi1 ?_|refine Gi2 (fun _=>?_) fun _=>?_|refine Gi3 ?_|refine Gi4 fun _=>?_|fail)
     exact bodyK.retD L (Res.of2 Tryz.results166) ⟨⟨false, rfl, rfl⟩, rfl⟩
    ·have e : reach m a many = (0, [190]) := by rw [e]; simp only; rw [if_neg c3]
     rw [e]
     repeat' (first|refine Gi0 fun _=>?_|refine Gi1 ?_|refine Gi2 (fun _=>?_) fun _=>?_|refine Gi3 ?_|refine Gi4 fun _=>?_|fail)
     exact bodyK.retD L (Res.of2 Tryz.results166) ⟨⟨true, rfl, rfl⟩, rfl⟩
theorem cutApp {xs rest c : List Value} {k n : Nat} (h : (xs.drop k).take n = c) (hk : k + n ≤ xs.length) : CutL (xs ++ rest) k n c := ⟨by rw [List.length_append]; omega, by
 rw [List.drop_append_of_le_length (by omega), List.take_append_of_le_length (by rw [List.length_drop]; omega), h]⟩
theorem set4 {xs rest : List Value} {k : Nat} {a b c d d' : Value} (h : (xs.drop k).take 4 = [a, b, c, d]) (hk : k + 4 ≤ xs.length) : SetL (xs ++ rest) (k + 3) d' ((xs.take k ++ [a, b, c, d'] ++ xs.drop (k + 4)) ++ rest) := ⟨by rw [List.length_append]; omega, by
 rw [List.set_append_left _ _ (by omega)]
 congr 1
 have e : xs = xs.take k ++ ([a, b, c, d] ++ xs.drop (k + 4)) := by
  rw [← h, ← List.drop_drop, List.take_append_drop, List.take_append_drop]
 have hlen : (xs.take k).length = k := by rw [List.length_take]; omega
 conv => lhs; rw [e]
 rw [List.set_append_right _ _ (by omega), hlen, show k + 3 - k = 3 by omega]
 simp⟩
theorem upto_ok {a : Int} {bs : List Int} {k : Int} {p : Pc} (hp : PcOk p) (hb : ∀ x ∈ bs, 0 ≤ x ∧ x ≤ 255) : PcOk (upto a bs k p) := by
 refine ⟨hp.ad, hp.room, hp.fin, hp.size1, hp.size2, by show ((overK a bs p.ad (a + k) p.b).length : Int) = _; rw [overK_len]; exact hp.len, fun x hx => ?_⟩
 have hx : x ∈ overK a bs p.ad (a + k) p.b := hx
 simp only [overK, List.mem_map] at hx
 obtain ⟨⟨y, d⟩, hy, rfl⟩ := hx
 have hyb := List.mem_zipIdx hy
 split
 ·rw [List.getD_eq_getElem?_getD]
  cases hg : bs[(p.ad + (d : Int) - a).toNat]? with
  | none => simp
  | some z =>
   have := hb z (List.mem_of_getElem? hg)
   simp only [Option.getD_some]
   omega
 ·have : y ∈ p.b := by rw [hyb.2.2]; exact List.getElem_mem _
  exact hp.byt y this
theorem rAccess (m : Mod) (hwf : WF m) (v : Value) (x : OpM) (hxr : OpR x) (hk : x.kind = 6 ∨ x.kind = 7) (o : OutM) (vx vb : Value) (hor : OutR o) (D L : Chunk) [hD : MemC D L] (hl : RL D v m.L) (hvx : BS L vx x.bytes) (hb : BS L vb o.bytes) :
  Fn1 Tryz.prog 125 [mV m v, opV x vx, outV o vb] L (DoR D L (Md.step m x o)) := by
 have hlen := wf_len2 hwf
 have hl' := hl
 obtain ⟨av, cv, rfl⟩ := hl'.slice
 have hvx' := hvx
 have hb' := hb
 obtain ⟨ax, cx, rfl⟩ := hvx'.slice
 obtain ⟨ab, cb, rfl⟩ := hb'.slice
 have hb1 := hvx.len
 have hb2 := hb.len
 obtain ⟨q1, q2⟩ := hxr.many
 have hsame := fun b => DoR.same (L := L) (m := m) (b := b) hl
 intro w0; refine Spec.enter3 Tryz.func125 rfl Tryz.ntmps125 (by decide) ?_
 have z1:DrP 1 [0,1,2,3,4,5]:=⟨⟨⟩⟩; have z3:DrP 3 [0,1,2,3,4,5,6,7]:=⟨⟨⟩⟩; have z9:DrS 9 6 [0,1,2,3,4,5,6,7,8,9,10,11,12,13,14,15,16,17,18,19,20,21,22,23,24]:=⟨⟨⟩⟩; have z18:DrP 18 [0,1,2,3,4,5,6,7,8,9,10,11,12,13]:=⟨⟨⟩⟩; have z19:DrP 19 [0,1,2,3,4,5,6,7,8,9,10,11,12,13,14,15,16,17,18,19,20,21,22,23,24,25,26,27,28,29,30,31]:=⟨⟨⟩⟩; have z21:DrP 21 [0,1,2,4,5,6,7,8,9,3,10,11,12,13]:=⟨⟨⟩⟩; have z22:DrP 22 [0,1,2,3,4,5,6,7,8,9,10,11,12,13]:=⟨⟨⟩⟩
 have st6 : x.kind = 6 → Md.step m x o = Md.access m x.kind x.ad o o.bytes x.many := fun h => by unfold Md.step; rw [if_neg (by omega), if_neg (by omega), if_neg (by omega), if_neg (by omega), if_neg (by omega), if_pos h, h]
 have st7 : x.kind = 7 → Md.step m x o = if o.bytes ≠ [] then (m, false) else Md.access m x.kind x.ad o x.bytes x.bytes.length := fun h => by unfold Md.step; rw [if_neg (by omega), if_neg (by omega), if_neg (by omega), if_neg (by omega), if_neg (by omega), if_neg (by omega), h]
 repeat' (first|refine Gi0 fun _=>?_|refine Hi1 ?_|refine CW.drawsP (id := 1) [0,1,2,3,4,5] mixed (by kernel_rfl) ?_|refine CW.drawsP (id := 3) [0,1,2,3,4,5,6,7] mixed (by kernel_rfl) ?_|refine CW.drawsS (id := 9) 6 [0,1,2,3,4,5,6,7,8,9,10,11,12,13,14,15,16,17,18,19,20,21,22,23,24] mixed (by kernel_rfl) ?_|refine CW.drawsP (id := 18) [0,1,2,3,4,5,6,7,8,9,10,11,12,13] mixed (by kernel_rfl) ?_|refine CW.drawsP (id := 19) [0,1,2,3,4,5,6,7,8,9,10,11,12,13,14,15,16,17,18,19,20,21,22,23,24,25,26,27,28,29,30,31] mixed (by kernel_rfl) ?_|refine Gi3 ?_|refine Gi4 fun _=>?_|fail)
 rename_i b3 b4 b5 b6
 refine CW.cutK (fun ρ ds L' => ds = [] ∧ L' = (b6, .cells #[.int .i64 0, .int .i64 0, .slice none 0 0] 72 (0, 0)) :: (b5, .cells #[.int .i64 o.errno, .int .u32 o.ad, .int .i64 o.n, .slice ab o.bytes.length cb] 56 (0, 0)) :: (b4, .cells #[.int .i64 x.kind, .int .u32 x.ad, .int .u64 x.size, .int .u64 x.mult, .int .u64 x.many, .slice ax x.bytes.length cx] 50 (0, 0)) :: (b3, .cells #[.int .i64 m.slot, .int .i64 m.quota, .slice av m.L.length cv] 72 (0, 0)) :: L ∧
  (∃ vB bs many, Ev ρ 8 (.int .u64 many) ∧ Ev ρ 9 vB ∧ BS L vB bs ∧ (0 ≤ many ∧ many ≤ 18446744073709551615) ∧ Md.step m x o = Md.access m x.kind x.ad o bs many) ∧ Ev ρ 3 (.pointer (some ⟨b3, 0, none⟩)) ∧ Ev ρ 4 (.pointer (some ⟨b4, 0, none⟩)) ∧ Ev ρ 5 (.pointer (some ⟨b5, 0, none⟩)) ∧ Ev ρ 6 (.pointer (some ⟨b6, 0, none⟩))) ?_ ?_
 rotate_left
 ·intro N hN
  rcases hk with hk | hk
  ·rw [decide_eq_false (show ¬ x.kind = 7 by omega)]
   repeat' (first|refine Gi0 fun _=>?_|refine Gi1 ?_|refine Gi2 (fun _=>?_) fun _=>?_|refine Gi3 ?_|refine Gi4 fun _=>?_|fail)
   exact hN _ _ _ ⟨rfl, rfl, ⟨_, o.bytes, x.many, ii, ii, hb, ⟨q1, q2⟩, st6 hk⟩, ii, ii, ii, ii⟩
  ·rw [decide_eq_true hk]
   by_cases h0 : o.bytes.length = 0
   ·have e : Md.step m x o = Md.access m x.kind x.ad o x.bytes x.bytes.length := by rw [st7 hk, if_neg (by rw [List.eq_nil_of_length_eq_zero h0]; simp)]
    repeat' (first|refine Gi0 fun _=>?_|refine Gi1 ?_|refine Gi2 (fun _=>?_) fun _=>?_|refine Gi3 ?_|refine Gi4 fun _=>?_|fail)
    exact hN _ _ _ ⟨rfl, rfl, ⟨_, x.bytes, (x.bytes.length : Int), ii, ii, hvx, ⟨by omega, by omega⟩, e⟩, ii, ii, ii, ii⟩
   ·have e : Md.step m x o = (m, false) := by rw [st7 hk, if_pos (fun h => h0 (by rw [h]; rfl))]
    rw [e]
    repeat' (first|refine Gi0 fun _=>?_|refine Gi1 ?_|refine Gi2 (fun _=>?_) fun _=>?_|refine Gi3 ?_|refine Gi4 fun _=>?_|fail)
    exact bodyK.retD L (Res.of2 Tryz.results125) (hsame false)
 rintro ρ ds L' ⟨rfl, rfl, ⟨vB, bs, many, e8, e9, hB, ⟨y1, y2⟩, est⟩, e3, e4, e5, e6⟩
 rw [est]
 clear est st6 st7
 have hBl := hB.len
 have hB' := hB
 obtain ⟨aB, kB, rfl⟩ := hB'.slice
 have had := hxr.ad
 obtain ⟨ad1, ad2⟩ := had
 have e0 : Md.access m x.kind x.ad o bs many = if (reach m x.ad many).1 ≠ 0 then (m, decide (bareO o [(reach m x.ad many).1])) else if o.errno ≠ 0 then (m, decide (bareO o (reach m x.ad many).2))
  else if o.ad ≠ 0 ∨ o.n ≠ 0 ∨ (bs.length : Int) ≠ many then (m, false) else if x.kind = 7 ∨ ∀ p ∈ m.L, agrees x.ad bs p then ({ m with L := m.L.map (over x.ad bs) }, true) else (m, false) := rfl
 repeat' (first|refine Gi0 fun _=>?_|refine Gi1 ?_|refine Gi2 (fun _=>?_) fun _=>?_|refine Gi3 ?_|refine Gi4 fun _=>?_|fail)
 refine OW.call (rReach m hwf _ x.ad many hxr.ad ⟨y1, y2⟩ _ (RL.to' hl)) ?_
 rintro _ _ ⟨⟨fb, rfl, hfb⟩, rfl⟩
 have hrr : (reach m x.ad many).1 = 0 → x.ad + many ≤ 16777216 := fun h => by
  unfold reach at h
  split at h
  ·cases h
  ·split at h
   ·cases h
   ·omega
 generalize reach m x.ad many = r at *
 obtain ⟨r1, r2⟩ := r
 simp only at e0 hfb hrr ⊢
 by_cases c1 : r1 = 0
 ·rw [if_neg (fun h => h c1)] at e0
  subst c1
  by_cases c2 : o.errno = 0
  ·rw [if_neg (fun h => h c2)] at e0
   have bad : o.ad ≠ 0 ∨ o.n ≠ 0 ∨ (bs.length : Int) ≠ many → Md.access m x.kind x.ad o bs many = (m, false) := fun h => by rw [e0, if_pos h]
   by_cases c3 : o.ad = 0
   ·by_cases c4 : o.n = 0
    ·by_cases c5 : (bs.length : Int) = many
     ·rw [if_neg (by omega)] at e0
      have hrr := hrr rfl
      clear bad
      repeat' (first|refine Gi0 fun _=>?_|refine Gi1 ?_|refine Gi2 (fun _=>?_) fun _=>?_|refine Gi3 ?_|refine Gi4 fun _=>?_|fail)
      obtain ⟨xs, hxs, hlat⟩ := hl.rd
      refine OW.appendE (RowE.empty ..) (At.nil _) hxs.to (lat_sng hlat) (by omega) (fun v1 N1 hr1 => ?_)
      have sv1 := hr1.sng
      rw [List.nil_append, Nat.zero_add] at hr1
      have hbyt : ∀ z ∈ bs, 0 ≤ z ∧ z ≤ 255 := fun z hz => by have := hB.byt z hz; omega
      repeat' (first|refine Gi0 fun _=>?_|refine Gi1 ?_|refine Gi2 (fun _=>?_) fun _=>?_|refine Gi3 ?_|refine Gi4 fun _=>?_|fail)
      rename_i be
      refine CW.count bs.length (fun k ρ ds L' => ds = [] ∧ (∃ (X NL : Chunk) (vL : Value) (ys : List Value), L' = X ++ (NL ++ ((be, .cells #[] 159 (0, 0)) :: (b6, .cells #[.int .i64 0, .int .i64 0, .slice none 0 0] 72 (0, 0)) :: (b5, .cells #[.int .i64 o.errno, .int .u32 o.ad, .int .i64 o.n, .slice ab o.bytes.length cb] 56 (0, 0)) :: (b4, .cells #[.int .i64 x.kind, .int .u32 x.ad, .int .u64 x.size, .int .u64 x.mult, .int .u64 x.many, .slice ax x.bytes.length cx] 50 (0, 0)) :: (b3, .cells #[.int .i64 m.slot, .int .i64 m.quota, vL] 72 (0, 0)) :: L)) ∧
       RowE 159 4 NL vL m.L.length ys ∧ LAt 4 (PcR (X ++ D)) ys (m.L.map (upto x.ad bs k)) ∧ (x.kind = 7 ∨ agK m.L x.ad bs k)) ∧ Ev ρ 3 (.pointer (some ⟨b3, 0, none⟩)) ∧ Ev ρ 4 (.pointer (some ⟨b4, 0, none⟩)) ∧ Ev ρ 5 (.pointer (some ⟨b5, 0, none⟩)) ∧ Ev ρ 6 (.pointer (some ⟨b6, 0, none⟩)) ∧ Ev ρ 9 (.slice aB bs.length kB) ∧ Ev ρ 13 (.int .i64 (k : Int)))
       ⟨rfl, ⟨[], N1, v1, xs, rfl, hr1, ?_, .inr (agK_zero _ _ _)⟩, ii, ii, ii, ii, ii, ii⟩ ?_
      ·have e : m.L.map (upto x.ad bs ((0 : Nat) : Int)) = m.L := by
        conv => rhs; rw [← List.map_id m.L]
        exact List.map_congr_left fun p _ => upto_zero ..
       rw [e]
       exact hlat
      clear hr1 sv1 e3 e4 e5 e6 e8 e9
      rintro k ρ ds L' hk' ⟨rfl, ⟨X, NL, vL, ys, rfl, hrow, hlk, hag⟩, e3, e4, e5, e6, e9, e13⟩
      have svL := hrow.sng
      have hml : (m.L.map (upto x.ad bs k)).length = m.L.length := by simp
      by_cases hlt : k < bs.length
      ·have hRL : RL (X ++ (NL ++ ((be, .cells #[] 159 (0, 0)) :: (b6, .cells #[.int .i64 0, .int .i64 0, .slice none 0 0] 72 (0, 0)) :: (b5, .cells #[.int .i64 o.errno, .int .u32 o.ad, .int .i64 o.n, .slice ab o.bytes.length cb] 56 (0, 0)) :: (b4, .cells #[.int .i64 x.kind, .int .u32 x.ad, .int .u64 x.size, .int .u64 x.mult, .int .u64 x.many, .slice ax x.bytes.length cx] 50 (0, 0)) :: (b3, .cells #[.int .i64 m.slot, .int .i64 m.quota, vL] 72 (0, 0)) :: L))) vL (m.L.map (upto x.ad bs k)) := by
        refine ⟨⟨ys, ?_, hlk.mono fun c a h => ?_⟩, by rw [hml]; omega⟩
        ·rw [hml]
         exact hrow.rd.mono fun q hq => List.mem_append_right _ (List.mem_append_left _ hq)
        ·refine PcR.to (hm := ⟨fun q hq => ?_⟩) c a h
         have hD' := hD.out q
         simp only [List.mem_append, List.mem_cons] at hq ⊢
         rcases hq with h | h
         ·simp [h]
         ·simp [hD' h]
       have hrange : x.ad + (k : Int) < 16777216 := by omega
       have hklt : (k : Int) < bs.length := by omega
       repeat' (first|refine Gi0 fun _=>?_|refine Hi1 ?_|refine CW.drawsP (id := 1) [0,1,2,3,4,5] mixed (by kernel_rfl) ?_|refine CW.drawsP (id := 3) [0,1,2,3,4,5,6,7] mixed (by kernel_rfl) ?_|refine CW.drawsS (id := 9) 6 [0,1,2,3,4,5,6,7,8,9,10,11,12,13,14,15,16,17,18,19,20,21,22,23,24] mixed (by kernel_rfl) ?_|refine CW.drawsP (id := 18) [0,1,2,3,4,5,6,7,8,9,10,11,12,13] mixed (by kernel_rfl) ?_|refine CW.drawsP (id := 19) [0,1,2,3,4,5,6,7,8,9,10,11,12,13,14,15,16,17,18,19,20,21,22,23,24,25,26,27,28,29,30,31] mixed (by kernel_rfl) ?_|refine Gi2 (fun _=>?_) fun _=>?_|refine Gi3 ?_|refine Gi4 fun _=>?_|fail)
       refine OW.call (rIn ⟨m.slot, m.quota, m.L.map (upto x.ad bs k)⟩ vL (x.ad + (k : Int)) (by omega) _ hRL (fun p hp => by obtain ⟨q, hq, rfl⟩ := List.mem_map.1 hp; exact upto_ok (hwf.ok q hq) hbyt)) ?_
       rintro _ _ ⟨⟨j, rfl, hj⟩, rfl⟩
       have hj' : PlR (fun p => p.ad ≤ x.ad + (k : Int) ∧ x.ad + (k : Int) < p.ad + p.room) m.L j := by
        rcases hj with ⟨h0, h⟩ | ⟨i, hi, h0, h⟩
        ·exact .inl ⟨h0, fun p hp => h (upto x.ad bs k p) (List.mem_map.2 ⟨p, hp, rfl⟩)⟩
        ·refine .inr ⟨i, by simpa using hi, h0, ?_⟩
         simp only [List.getElem_map] at h
         exact h
       rcases inn_pl hwf hj' with ⟨rfl, hi⟩ | ⟨i, hi, rfl, hs, h1, h2⟩
       ·repeat' (first|refine Gi0 fun _=>?_|refine Hi1 ?_|refine CW.drawsP (id := 1) [0,1,2,3,4,5] mixed (by kernel_rfl) ?_|refine CW.drawsP (id := 3) [0,1,2,3,4,5,6,7] mixed (by kernel_rfl) ?_|refine CW.drawsS (id := 9) 6 [0,1,2,3,4,5,6,7,8,9,10,11,12,13,14,15,16,17,18,19,20,21,22,23,24] mixed (by kernel_rfl) ?_|refine CW.drawsP (id := 18) [0,1,2,3,4,5,6,7,8,9,10,11,12,13] mixed (by kernel_rfl) ?_|refine CW.drawsP (id := 19) [0,1,2,3,4,5,6,7,8,9,10,11,12,13,14,15,16,17,18,19,20,21,22,23,24,25,26,27,28,29,30,31] mixed (by kernel_rfl) ?_|refine Gi2 (fun _=>?_) fun _=>?_|refine Gi3 ?_|refine Gi4 fun _=>?_|fail)
        exact ⟨hlt, rfl, ⟨X, NL, vL, ys, rfl, hrow, by rw [upto_none hwf hi]; exact hlk, hag.imp id (agK_none hwf hi).2⟩, ii, ii, ii, ii, ii, by rw [Int.natCast_add]; infer_instance⟩
       ·have hne : m.L.length ≠ 0 := by omega
        rcases hrow with hrow | ⟨_, h0, _⟩
        rotate_left
        ·exact absurd h0 hne
        rcases hrow.2 with ⟨_, h0, _⟩ | ⟨bL, cap, rest, rfl, rfl, hcap, hcl⟩
        ·exact absurd h0 hne
        have hyl : ys.length = m.L.length * 4 := by rw [← hml]; exact hlk.length
        have hi4 : i * 4 + 4 ≤ ys.length := by omega
        obtain ⟨vq, hcq, hrq0⟩ := hlk.get i (by rw [hml]; exact hi)
        rw [List.getElem_map] at hcq hrq0
        have hcq : (ys.drop (i * 4)).take 4 = [.int .u32 m.L[i].ad, .int .i64 m.L[i].size, .int .i64 m.L[i].room, vq] := hcq
        have hrq : Rd (X ++ D) 1 vq (overK x.ad bs m.L[i].ad (x.ad + k) m.L[i].b).length (iv (overK x.ad bs m.L[i].ad (x.ad + k) m.L[i].b)) := hrq0
        have hcut := cutApp (rest := rest) hcq hi4
        obtain ⟨n0, n1, n2, n3⟩ := cut4 hcut
        have svq := hrq.sng
        have okp := hwf.ok _ (List.getElem_mem hi)
        have o1 := okp.ad
        have o2 := okp.room
        have o3 := okp.fin
        have o4 := okp.len
        obtain ⟨d, hd⟩ : ∃ d : Nat, m.L[i].ad + (d : Int) = x.ad + k := ⟨(x.ad + k - m.L[i].ad).toNat, by omega⟩
        have hdb : d < m.L[i].b.length := by omega
        have t1 : ToN (x.ad + (k : Int) - m.L[i].ad) d := ⟨by omega⟩
        have hup := upto_set hwf (bs := bs) hi h1 h2
        have hags := agK_some hwf (bs := bs) hlt hi hdb hd
        have hui := upto_in (bs := bs) hlt h1 (show x.ad + (k : Int) < m.L[i].ad + m.L[i].b.length by omega)
        rw [t1.out] at hui
        have hold := overK_old (a := x.ad) (bs := bs) (ad := m.L[i].ad) (k := x.ad + k) hdb (by omega)
        have hby := okp.byt _ (List.getElem_mem hdb)
        have hbk := hbyt _ (List.getElem_mem hlt)
        have hol : (overK x.ad bs m.L[i].ad (x.ad + k) m.L[i].b).length = m.L[i].b.length := overK_len ..
        generalize overK x.ad bs m.L[i].ad (x.ad + k) m.L[i].b = ob at *
        obtain ⟨bb, kb, capb, lb, eb, frb, hbe, hbin, hbc, hbn⟩ := hB.rd.open1 (by omega)
        cases hbe
        have nb := hbn k _ hlt (bv_get hlt)
        obtain ⟨bq, kq, cq, lq, eq, fq, hqe, hqin, hqc, hqn⟩ := hrq.open1 (by omega)
        cases hqe
        have nq := hqn d (.int .i64 m.L[i].b[d]) (by omega) (by simp [iv, hold])
        have hqi : ∀ (Y : Chunk) [MemC L Y], InC (X ++ Y) bq (.cells lq.toArray eq fq) := fun Y h => ⟨(List.mem_append.1 hqin.out).elim (fun g => List.mem_append_left _ g) (fun g => List.mem_append_right _ (h.out _ (hD.out _ g)))⟩
        have hmx : ∀ (Y : Chunk) [MemC D Y], MemC (X ++ D) (X ++ Y) := fun Y h => ⟨fun q hq => (List.mem_append.1 hq).elim (fun g => List.mem_append_left _ g) (fun g => List.mem_append_right _ (h.out _ g))⟩
        generalize hz0 : m.L[i].b[d] = z0 at *
        generalize hz1 : bs[k] = z1 at *
        obtain ⟨hb1', hb2'⟩ := hby
        obtain ⟨hk1', hk2'⟩ := hbk
        repeat' (first|refine Gi0 fun _=>?_|refine Hi1 ?_|refine CW.drawsP (id := 1) [0,1,2,3,4,5] mixed (by kernel_rfl) ?_|refine CW.drawsP (id := 3) [0,1,2,3,4,5,6,7] mixed (by kernel_rfl) ?_|refine CW.drawsS (id := 9) 6 [0,1,2,3,4,5,6,7,8,9,10,11,12,13,14,15,16,17,18,19,20,21,22,23,24] mixed (by kernel_rfl) ?_|refine CW.drawsP (id := 18) [0,1,2,3,4,5,6,7,8,9,10,11,12,13] mixed (by kernel_rfl) ?_|refine Gi2 (fun _=>?_) fun _=>?_|refine Gi3 ?_|refine Gi4 fun _=>?_|fail)
        refine CW.cutK (fun ρ ds L' => ds = [] ∧ L' = X ++ ([(bL, .cells (ys ++ rest).toArray 159 (0, 0))] ++ ((be, .cells #[] 159 (0, 0)) :: (b6, .cells #[.int .i64 0, .int .i64 0, .slice none 0 0] 72 (0, 0)) :: (b5, .cells #[.int .i64 o.errno, .int .u32 o.ad, .int .i64 o.n, .slice ab o.bytes.length cb] 56 (0, 0)) :: (b4, .cells #[.int .i64 x.kind, .int .u32 x.ad, .int .u64 x.size, .int .u64 x.mult, .int .u64 x.many, .slice ax x.bytes.length cx] 50 (0, 0)) :: (b3, .cells #[.int .i64 m.slot, .int .i64 m.quota, .slice (some ⟨bL, 0, none⟩) m.L.length cap] 72 (0, 0)) :: L)) ∧
         Ev ρ 153 (.bool (decide (x.kind = 6 ∧ 0 ≤ z0 ∧ z0 ≠ z1))) ∧ Ev ρ 3 (.pointer (some ⟨b3, 0, none⟩)) ∧ Ev ρ 4 (.pointer (some ⟨b4, 0, none⟩)) ∧ Ev ρ 5 (.pointer (some ⟨b5, 0, none⟩)) ∧ Ev ρ 6 (.pointer (some ⟨b6, 0, none⟩)) ∧ Ev ρ 9 (.slice (some ⟨bb, kb, none⟩) bs.length kB) ∧ Ev ρ 13 (.int .i64 (k : Int)) ∧ Ev ρ 14 (.int .i64 (i : Int)) ∧ Ev ρ 15 (.int .i64 (x.ad + (k : Int) - m.L[i].ad))) ?_ ?_
        rotate_left
        ·intro N hN
         by_cases m1 : x.kind = 6
         ·by_cases m2 : 0 ≤ z0
          ·by_cases m3 : z0 = z1
           ·repeat' (first|refine Gi0 fun _=>?_|refine Hi1 ?_|refine CW.drawsP (id := 1) [0,1,2,3,4,5] mixed (by kernel_rfl) ?_|refine CW.drawsP (id := 3) [0,1,2,3,4,5,6,7] mixed (by kernel_rfl) ?_|refine CW.drawsS (id := 9) 6 [0,1,2,3,4,5,6,7,8,9,10,11,12,13,14,15,16,17,18,19,20,21,22,23,24] mixed (by kernel_rfl) ?_|refine CW.drawsP (id := 18) [0,1,2,3,4,5,6,7,8,9,10,11,12,13] mixed (by kernel_rfl) ?_|refine CW.drawsP (id := 19) [0,1,2,3,4,5,6,7,8,9,10,11,12,13,14,15,16,17,18,19,20,21,22,23,24,25,26,27,28,29,30,31] mixed (by kernel_rfl) ?_|refine Gi2 (fun _=>?_) fun _=>?_|refine Gi3 ?_|refine Gi4 fun _=>?_|fail)
            exact hN _ _ _ ⟨rfl, rfl, by rw [decide_eq_false (by omega)]; infer_instance, ii, ii, ii, ii, ii, ii, ii, ii⟩
           ·repeat' (first|refine Gi0 fun _=>?_|refine Hi1 ?_|refine CW.drawsP (id := 1) [0,1,2,3,4,5] mixed (by kernel_rfl) ?_|refine CW.drawsP (id := 3) [0,1,2,3,4,5,6,7] mixed (by kernel_rfl) ?_|refine CW.drawsS (id := 9) 6 [0,1,2,3,4,5,6,7,8,9,10,11,12,13,14,15,16,17,18,19,20,21,22,23,24] mixed (by kernel_rfl) ?_|refine CW.drawsP (id := 18) [0,1,2,3,4,5,6,7,8,9,10,11,12,13] mixed (by kernel_rfl) ?_|refine CW.drawsP (id := 19) [0,1,2,3,4,5,6,7,8,9,10,11,12,13,14,15,16,17,18,19,20,21,22,23,24,25,26,27,28,29,30,31] mixed (by kernel_rfl) ?_|refine Gi2 (fun _=>?_) fun _=>?_|refine Gi3 ?_|refine Gi4 fun _=>?_|fail)
            exact hN _ _ _ ⟨rfl, rfl, by rw [decide_eq_true (by omega)]; infer_instance, ii, ii, ii, ii, ii, ii, ii, ii⟩
          ·repeat' (first|refine Gi0 fun _=>?_|refine Hi1 ?_|refine CW.drawsP (id := 1) [0,1,2,3,4,5] mixed (by kernel_rfl) ?_|refine CW.drawsP (id := 3) [0,1,2,3,4,5,6,7] mixed (by kernel_rfl) ?_|refine CW.drawsS (id := 9) 6 [0,1,2,3,4,5,6,7,8,9,10,11,12,13,14,15,16,17,18,19,20,21,22,23,24] mixed (by kernel_rfl) ?_|refine CW.drawsP (id := 18) [0,1,2,3,4,5,6,7,8,9,10,11,12,13] mixed (by kernel_rfl) ?_|refine CW.drawsP (id := 19) [0,1,2,3,4,5,6,7,8,9,10,11,12,13,14,15,16,17,18,19,20,21,22,23,24,25,26,27,28,29,30,31] mixed (by kernel_rfl) ?_|refine Gi2 (fun _=>?_) fun _=>?_|refine Gi3 ?_|refine Gi4 fun _=>?_|fail)
           exact hN _ _ _ ⟨rfl, rfl, by rw [decide_eq_false (by omega)]; infer_instance, ii, ii, ii, ii, ii, ii, ii, ii⟩
         ·repeat' (first|refine Gi0 fun _=>?_|refine Hi1 ?_|refine CW.drawsP (id := 1) [0,1,2,3,4,5] mixed (by kernel_rfl) ?_|refine CW.drawsP (id := 3) [0,1,2,3,4,5,6,7] mixed (by kernel_rfl) ?_|refine CW.drawsS (id := 9) 6 [0,1,2,3,4,5,6,7,8,9,10,11,12,13,14,15,16,17,18,19,20,21,22,23,24] mixed (by kernel_rfl) ?_|refine CW.drawsP (id := 18) [0,1,2,3,4,5,6,7,8,9,10,11,12,13] mixed (by kernel_rfl) ?_|refine CW.drawsP (id := 19) [0,1,2,3,4,5,6,7,8,9,10,11,12,13,14,15,16,17,18,19,20,21,22,23,24,25,26,27,28,29,30,31] mixed (by kernel_rfl) ?_|refine Gi2 (fun _=>?_) fun _=>?_|refine Gi3 ?_|refine Gi4 fun _=>?_|fail)
          exact hN _ _ _ ⟨rfl, rfl, by rw [decide_eq_false (by omega)]; infer_instance, ii, ii, ii, ii, ii, ii, ii, ii⟩
        clear e3 e4 e5 e6 e9 e13
        rintro ρ ds L' ⟨rfl, rfl, e153, e3, e4, e5, e6, e9, e13, e14, e15⟩
        by_cases mism : x.kind = 6 ∧ 0 ≤ z0 ∧ z0 ≠ z1
        ·rw [decide_eq_true mism] at e153
         have hbad : Md.access m x.kind x.ad o bs many = (m, false) := by
          rw [e0, if_neg]
          rintro (h | h)
          ·omega
          ·have := (hags.1 (agK_mono ((agK_all _ _ _).2 h) (by omega))).2
           omega
         rw [hbad]
         repeat' (first|refine Gi0 fun _=>?_|refine Hi1 ?_|refine CW.drawsP (id := 1) [0,1,2,3,4,5] mixed (by kernel_rfl) ?_|refine CW.drawsP (id := 3) [0,1,2,3,4,5,6,7] mixed (by kernel_rfl) ?_|refine CW.drawsS (id := 9) 6 [0,1,2,3,4,5,6,7,8,9,10,11,12,13,14,15,16,17,18,19,20,21,22,23,24] mixed (by kernel_rfl) ?_|refine CW.drawsP (id := 18) [0,1,2,3,4,5,6,7,8,9,10,11,12,13] mixed (by kernel_rfl) ?_|refine CW.drawsP (id := 19) [0,1,2,3,4,5,6,7,8,9,10,11,12,13,14,15,16,17,18,19,20,21,22,23,24,25,26,27,28,29,30,31] mixed (by kernel_rfl) ?_|refine Gi2 (fun _=>?_) fun _=>?_|refine Gi3 ?_|refine Gi4 fun _=>?_|fail)
         exact bodyK.ret (Res.of2 Tryz.results125) ⟨⟨m.slot, m.quota, m.L.map (upto x.ad bs k)⟩, _, _, rfl, Pre.out, ii, fun h => (by cases h)⟩
        ·rw [decide_eq_false mism] at e153
         have hag' : x.kind = 7 ∨ agK m.L x.ad bs ((k + 1 : Nat) : Int) := by
          rcases hk with hk6 | hk7
          ·refine .inr (hags.2 ⟨hag.resolve_left (by omega), ?_⟩)
           omega
          ·exact .inl hk7
         repeat' (first|refine Gi0 fun _=>?_|refine Hi1 ?_|refine CW.drawsP (id := 1) [0,1,2,3,4,5] mixed (by kernel_rfl) ?_|refine CW.drawsP (id := 3) [0,1,2,3,4,5,6,7] mixed (by kernel_rfl) ?_|refine CW.drawsS (id := 9) 6 [0,1,2,3,4,5,6,7,8,9,10,11,12,13,14,15,16,17,18,19,20,21,22,23,24] mixed (by kernel_rfl) ?_|refine CW.drawsP (id := 18) [0,1,2,3,4,5,6,7,8,9,10,11,12,13] mixed (by kernel_rfl) ?_|refine CW.drawsP (id := 19) [0,1,2,3,4,5,6,7,8,9,10,11,12,13,14,15,16,17,18,19,20,21,22,23,24,25,26,27,28,29,30,31] mixed (by kernel_rfl) ?_|refine Gi2 (fun _=>?_) fun _=>?_|refine Gi3 ?_|refine Gi4 fun _=>?_|fail)
         refine CW.drawsSw (id := 21) [] [0, 1, 2, 4, 5, 6, 7, 8, 9, 3, 10] 11 [12, 13] mixed (by kernel_rfl) ?_
         repeat' (first|refine Gi0 fun _=>?_|refine Hi1 ?_|refine Gi2 (fun _=>?_) fun _=>?_|refine Gi3 ?_|refine Gi4 fun _=>?_|fail)
         refine RW.appendE (RowE.empty ..) (At.nil _) hrq.to (fun z hz => by obtain ⟨y, _, rfl⟩ := List.mem_map.1 hz; infer_instance) (by omega) (fun v5 N5 hr5 => pinOld ?_)
         rw [List.nil_append, Nat.zero_add] at hr5
         rcases hr5 with hr5 | ⟨_, h0, _⟩
         rotate_left
         ·omega
         rcases hr5.2 with ⟨_, h0, _⟩ | ⟨bn, capn, restn, rfl, rfl, hcapn, hcln⟩
         ·omega
         have hst0 := set4 (rest := rest) (d' := .slice (some ⟨bn, 0, none⟩) ob.length capn) hcq hi4
         obtain ⟨zs, hzs⟩ : ∃ zs, zs = ys.take (i * 4) ++ [Value.int .u32 m.L[i].ad, Value.int .i64 m.L[i].size, Value.int .i64 m.L[i].room, Value.slice (some ⟨bn, 0, none⟩) ob.length capn] ++ ys.drop (i * 4 + 4) := ⟨_, rfl⟩
         have hst : SetL (ys ++ rest) (i * 4 + 3) (.slice (some ⟨bn, 0, none⟩) ob.length capn) (zs ++ rest) := by rw [hzs]; exact hst0
         have m3 : NthL (zs ++ rest) (i * 4 + 3) (.slice (some ⟨bn, 0, none⟩) ob.length capn) := ⟨by rw [← hst.out.2, List.getElem?_set_self hst.out.1]⟩
         have hst2 : SetL (iv ob ++ restn) d (.int .i64 z1) (iv (ob.set d z1) ++ restn) := ⟨by simp only [List.length_append, iv, List.length_map]; omega, by
          rw [List.set_append_left _ _ (by simp only [iv, List.length_map]; omega)]
          simp only [iv, List.map_set]⟩
         repeat' (first|refine Gi0 fun _=>?_|refine Hi1 ?_|refine Gi2 (fun _=>?_) fun _=>?_|refine Gi3 ?_|refine Gi4 fun _=>?_|fail)
         refine CW.drawsSw (id := 22) [] [0, 1, 2, 3, 4, 5, 6, 7, 8, 9, 10, 11] 12 [13] mixed (by kernel_rfl) ?_
         repeat' (first|refine Gi0 fun _=>?_|refine Hi1 ?_|refine Gi2 (fun _=>?_) fun _=>?_|refine Gi3 ?_|refine Gi4 fun _=>?_|fail)
         have h44 : (i + 1) * 4 = i * 4 + 4 := by omega
         refine ⟨hlt, rfl, ⟨(bn, .cells (iv (ob.set d z1) ++ restn).toArray 3 (0, 0)) :: (_, _) :: X, [(bL, .cells (zs ++ rest).toArray 159 (0, 0))], _, zs, rfl, .inl ⟨?_, .inr ⟨bL, cap, rest, rfl, rfl, hcap, ?_⟩⟩, ?_, hag'⟩, ii, ii, ii, ii, ii, by rw [Int.natCast_add]; infer_instance⟩
         ·rw [hzs]; simp only [List.length_append, List.length_take, List.length_drop, List.length_cons, List.length_nil]; omega
         ·have := hst.out.2
          have h9 := congrArg List.length this
          rw [List.length_set] at h9
          rw [← h9]
          exact hcl
         ·rw [hup, hzs, ← h44]
          refine LAt.set i (by rw [hml]; exact hi) (hlk.mono fun c a h => PcR.to (hm := ⟨fun q hq => ?_⟩) c a h) rfl ⟨.slice (some ⟨bn, 0, none⟩) ob.length capn, rfl, ?_⟩
          ·simp only [List.mem_append, List.mem_cons] at hq ⊢
           rcases hq with h | h <;> simp [h]
          ·rw [show ((k + 1 : Nat) : Int) = (k : Int) + 1 by omega, hui]
           have hsl : (ob.set d z1).length = ob.length := List.length_set
           refine ⟨?_, .inr ⟨bn, 0, capn, _, 3, (0, 0), by rw [hsl], List.mem_append_left _ (List.mem_cons_self ..), ?_, ?_, ?_⟩⟩
           ·simp [iv]
           ·simp [iv]
           ·simp [iv]
           ·rw [hsl]; exact hcapn
      ·obtain rfl : k = bs.length := by omega
       have hfin : Md.access m x.kind x.ad o bs many = ({ m with L := m.L.map (over x.ad bs) }, true) := by rw [e0, if_pos (hag.imp id (agK_all _ _ _).1)]
       rw [hfin]
       repeat' (first|refine Gi0 fun _=>?_|refine Hi1 ?_|refine CW.drawsP (id := 1) [0,1,2,3,4,5] mixed (by kernel_rfl) ?_|refine CW.drawsP (id := 3) [0,1,2,3,4,5,6,7] mixed (by kernel_rfl) ?_|refine CW.drawsS (id := 9) 6 [0,1,2,3,4,5,6,7,8,9,10,11,12,13,14,15,16,17,18,19,20,21,22,23,24] mixed (by kernel_rfl) ?_|refine CW.drawsP (id := 18) [0,1,2,3,4,5,6,7,8,9,10,11,12,13] mixed (by kernel_rfl) ?_|refine CW.drawsP (id := 19) [0,1,2,3,4,5,6,7,8,9,10,11,12,13,14,15,16,17,18,19,20,21,22,23,24,25,26,27,28,29,30,31] mixed (by kernel_rfl) ?_|refine Gi2 (fun _=>?_) fun _=>?_|refine Gi3 ?_|refine Gi4 fun _=>?_|fail)
       refine bodyK.ret (Res.of2 Tryz.results125) ⟨{ m with L := m.L.map (over x.ad bs) }, vL, _, rfl, Pre.out, svL, fun _ => ⟨rfl, ⟨ys, ?_, LAt.mono (fun c a h => ?_) hlk⟩, by simp; omega⟩⟩
       ·rw [show ({ m with L := m.L.map (over x.ad bs) } : Mod).L.length = m.L.length by simp]
        exact hrow.rd.mono fun q hq => by simp [hq]
       ·refine PcR.to (hm := ⟨fun q hq => ?_⟩) c a h
        simp only [List.mem_append, List.mem_cons] at hq ⊢
        rcases hq with h | h <;> simp [h]
     ·rw [bad (.inr (.inr c5))]
      repeat' (first|refine Gi0 fun _=>?_|refine Gi1 ?_|refine Gi2 (fun _=>?_) fun _=>?_|refine Gi3 ?_|refine Gi4 fun _=>?_|fail)
      exact bodyK.retD L (Res.of2 Tryz.results125) (hsame false)
    ·rw [bad (.inr (.inl c4))]
     repeat' (first|refine Gi0 fun _=>?_|refine Gi1 ?_|refine Gi2 (fun _=>?_) fun _=>?_|refine Gi3 ?_|refine Gi4 fun _=>?_|fail)
     exact bodyK.retD L (Res.of2 Tryz.results125) (hsame false)
   ·rw [bad (.inl c3)]
    repeat' (first|refine Gi0 fun _=>?_|refine Gi1 ?_|refine Gi2 (fun _=>?_) fun _=>?_|refine Gi3 ?_|refine Gi4 fun _=>?_|fail)
    exact bodyK.retD L (Res.of2 Tryz.results125) (hsame false)
  ·rw [if_pos c2] at e0
   rw [e0]
   clear e0
   have hnone : ¬ noneO o → decide (bareO o r2) = false := fun h => decide_eq_false fun hh => h hh.1
   repeat' (first|refine Gi0 fun _=>?_|refine Gi1 ?_|refine Gi2 (fun _=>?_) fun _=>?_|refine Gi3 ?_|refine Gi4 fun _=>?_|fail)
   refine RW.call (rNone o _ _ hb.to) ?_
   rintro _ _ ⟨rfl, rfl⟩
   refine pinOld ?_
   by_cases d1 : noneO o
   ·rw [decide_eq_true d1]
    cases fb with
    | false =>
     rw [decide_eq_false (show ¬ bareO o r2 from fun h => by rw [hfb] at h; cases h.2)]
     repeat' (first|refine Gi0 fun _=>?_|refine Gi1 ?_|refine Gi2 (fun _=>?_) fun _=>?_|refine Gi3 ?_|refine Gi4 fun _=>?_|fail)
     all_goals exact bodyK.retD L (Res.of2 Tryz.results125) (hsame false)
    | true =>
     have e1 : decide (bareO o r2) = decide (o.errno = 190) := by congr 1; rw [hfb]; simp [bareO, d1]
     rw [e1]
     by_cases d2 : o.errno = 190
     ·rw [decide_eq_true d2]
      repeat' (first|refine Gi0 fun _=>?_|refine Gi1 ?_|refine Gi2 (fun _=>?_) fun _=>?_|refine Gi3 ?_|refine Gi4 fun _=>?_|fail)
      all_goals exact bodyK.retD L (Res.of2 Tryz.results125) (hsame true)
     ·rw [decide_eq_false d2]
      repeat' (first|refine Gi0 fun _=>?_|refine Gi1 ?_|refine Gi2 (fun _=>?_) fun _=>?_|refine Gi3 ?_|refine Gi4 fun _=>?_|fail)
      all_goals exact bodyK.retD L (Res.of2 Tryz.results125) (hsame false)
   ·rw [decide_eq_false d1, hnone d1]
    repeat' (first|refine Gi0 fun _=>?_|refine Gi1 ?_|refine Gi2 (fun _=>?_) fun _=>?_|refine Gi3 ?_|refine Gi4 fun _=>?_|fail)
    all_goals exact bodyK.retD L (Res.of2 Tryz.results125) (hsame false)
 ·rw [if_pos c1] at e0
  rw [e0]
  clear e0
  have hnone : ¬ noneO o → decide (bareO o [r1]) = false := fun h => decide_eq_false fun hh => h hh.1
  repeat' (first|refine Gi0 fun _=>?_|refine Gi1 ?_|refine Gi2 (fun _=>?_) fun _=>?_|refine Gi3 ?_|refine Gi4 fun _=>?_|fail)
  refine RW.call (rNone o _ _ hb.to) ?_
  rintro _ _ ⟨rfl, rfl⟩
  refine pinOld ?_
  by_cases d1 : noneO o
  ·have e1 : decide (bareO o [r1]) = decide (o.errno = r1) := by congr 1; simp [bareO, d1]
   rw [decide_eq_true d1, e1]
   by_cases d2 : o.errno = r1
   ·rw [decide_eq_true d2]
    repeat' (first|refine Gi0 fun _=>?_|refine Gi1 ?_|refine Gi2 (fun _=>?_) fun _=>?_|refine Gi3 ?_|refine Gi4 fun _=>?_|fail)
    all_goals exact bodyK.retD L (Res.of2 Tryz.results125) (hsame true)
   ·rw [decide_eq_false d2]
    repeat' (first|refine Gi0 fun _=>?_|refine Gi1 ?_|refine Gi2 (fun _=>?_) fun _=>?_|refine Gi3 ?_|refine Gi4 fun _=>?_|fail)
    all_goals exact bodyK.retD L (Res.of2 Tryz.results125) (hsame false)
  ·rw [decide_eq_false d1, hnone d1]
   repeat' (first|refine Gi0 fun _=>?_|refine Gi1 ?_|refine Gi2 (fun _=>?_) fun _=>?_|refine Gi3 ?_|refine Gi4 fun _=>?_|fail)
   all_goals exact bodyK.retD L (Res.of2 Tryz.results125) (hsame false)
end Go.Proofs.YtmnhooepaemlcaaGreat
