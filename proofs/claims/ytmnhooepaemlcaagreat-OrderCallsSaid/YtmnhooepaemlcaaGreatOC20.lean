/- OrderCalls: true for every input; arguments as before. Part 20. Conditions: none. -/
import Derived.Test.YtmnhooepaemlcaaGreatOC2
import Derived.Test.YtmnhooepaemlcaaGreatOC19
set_option linter.all false
namespace Go.Proofs.YtmnhooepaemlcaaGreat
open Go Go.Pw Go.Pw.Sc Go.Pw.Md Go.Pw.Jd
set_option maxRecDepth 100000
set_option maxHeartbeats 4000000
set_option synthInstance.maxHeartbeats 400000
set_option synthInstance.maxSize 2000
attribute [local irreducible] CW OW RW thenK blockK
attribute [local irreducible] scopeK loopK TRW ATW
@[reducible] def clC (c : Cl) (vx vb : Value) : List Value := [.int .i64 c.op.kind, .int .u32 c.op.ad, .int .u64 c.op.size, .int .u64 c.op.mult, .int .u64 c.op.many, vx, .int .i64 c.work, .bool c.told, .int .i64 c.out.errno, .int .u32 c.out.ad, .int .i64 c.out.n, vb, .int .i64 c.steps]
structure ClR (n : Nat) (c : Cl) : Prop where
 op : OpR0 c.op
 out : OutR0 c.out
 w0 : -1 ≤ c.work
 w1 : c.work < n
 s0 : 0 ≤ c.steps
 s1 : c.steps ≤ n
def ClAt (n : Nat) (L : Chunk) (cs : List Value) (c : Cl) : Prop := ∃ vx vb, cs = clC c vx vb ∧ BS L vx c.op.bytes ∧ BS L vb c.out.bytes ∧ ClR n c
theorem ClAt.to {n : Nat} {L L' : Chunk} [hm : MemC L L'] (cs : List Value) (c : Cl) (h : ClAt n L cs c) : ClAt n L' cs c := let ⟨a, b, e, h1, h2, h3⟩ := h; ⟨a, b, e, h1.to, h2.to, h3⟩
theorem perm_mark {D : Nat} {X N T : Chunk} {Ds : List Nat} : ((D, .deferred (some [])) :: (X ++ (N ++ (markB Ds ++ T)))).Perm (X ++ (N ++ (markB (D :: Ds) ++ T))) := by
 rw [← List.append_assoc X N, ← List.append_assoc X N]
 exact List.perm_middle.symm
theorem callsOf_step {x : Hd} {ws : List Row} {i : Nat} (h : i < ws.length) : callsOf x (ws.drop i) i = (if begins x ws[i] then [scan ws[i].t.thread x (ws.drop (i + 1)) (i + 1) ⟨opOf ws[i].t, -1, false, okO, 0⟩] else []) ++ callsOf x (ws.drop (i + 1)) (i + 1) := by
 conv => lhs; rw [List.drop_eq_getElem_cons h, callsOf]
 split <;> simp
theorem scan_step {n : Int} {x : Hd} {ws : List Row} {k : Nat} {c : Cl} (h : k < ws.length) : scan n x (ws.drop k) k c = if ¬ whose ws[k] n x then c else if isStep n ws[k] then (if ws[k].r.done then clStep c k ws[k].r else scan n x (ws.drop (k + 1)) (k + 1) (clStep c k ws[k].r)) else scan n x (ws.drop (k + 1)) (k + 1) c := by
 conv => lhs; rw [List.drop_eq_getElem_cons h, scan]
 rfl
theorem okR : OutR0 okO := ⟨by decide, by decide, by decide⟩
theorem scan_end {n : Int} {x : Hd} {ws : List Row} {k : Nat} {c : Cl} (h : k = ws.length) : scan n x (ws.drop k) k c = c := by
 rw [List.drop_of_length_le (by omega)]; rfl
theorem jCalls (v : Value) (ws : List Row) (x : Hd) (D L : Chunk) [hD : MemC D L] (hv : LS 26 RwAt D v ws) (hl : ws.length ≤ 4096) :
  Fn1 Tryz.prog 46 [v, hdV x] L (fun u L' => ∃ N, L' = N ++ L ∧ ∃ xs, Row 123 13 N u (callsOf x ws 0).length xs ∧ LAt 13 (ClAt ws.length D) xs (callsOf x ws 0) ∧ (callsOf x ws 0).length ≤ ws.length) := by
 have sv := hv.sng
 obtain ⟨av, cv, rfl⟩ := hv.slice
 intro w0; refine Spec.enterM2 Tryz.func46 rfl Tryz.ntmps46 (by decide) ?_
 have z14:DrS 14 7 [0,1,2,3,4,5]:=⟨⟨⟩⟩
 repeat' (first|refine Gm0 fun _=>?_|refine Gm1 ?_|refine Gm2 (fun _=>?_) fun _=>?_|refine Gm3 ?_|refine Gm4 fun _=>?_|fail)
 rename_i b3
 refine CW.count ws.length (fun i ρ ds Lx => ∃ (X N : Chunk) (Ds : List Nat) (w : Value) (xs : List Value) (out : List Cl), ds = Ds.map mk ∧ Lx = X ++ (N ++ (markB Ds ++ ((b3, xCell x) :: L))) ∧ Row 123 13 N w out.length xs ∧ LAt 13 (ClAt ws.length D) xs out ∧ out ++ callsOf x (ws.drop i) i = callsOf x ws 0 ∧ out.length ≤ i ∧
   Ev ρ 0 (.slice av ws.length cv) ∧ Ev ρ 3 (.pointer (some ⟨b3, 0, none⟩)) ∧ Ev ρ 4 w ∧ Ev ρ 10 (.slice av ws.length cv) ∧ Ev ρ 11 (.int .i64 (ws.length : Int)) ∧ Ev ρ 12 (.int .i64 (i : Int)))
  ⟨[], [], [], .slice none 0 0, [], [], rfl, rfl, Row.nil _ _, rfl, rfl, Nat.le_refl _, ii, ii, ii, ii, ii, ii⟩ ?_
 rintro i ρ ds Lx hi ⟨X, N, Ds, w, xs, out, rfl, rfl, hrow, hlat, hout, hol, e0, e3, e4, e10, e11, e12⟩
 have sw := hrow.sng
 by_cases hlt : i < ws.length
 ·obtain ⟨bk, kk, capk, lk, ek, frk, hbe, hbin, hbc, hbn⟩ := hv.open (by omega)
  cases hbe
  have hbin : InC L bk (.cells lk.toArray ek frk) := ⟨hD.out _ hbin.out⟩
  obtain ⟨cc, hcut, vb, vd, vo, bp, rfl, hvb, hvd, hvo, htr, hrr, hbm⟩ := hbn i hlt
  have q1 := hvb.sng
  have q2 := hvd.sng
  have q3 := hvo.sng
  have hlti : (i : Int) < ws.length := by omega
  have hst := callsOf_step (x := x) hlt
  have hskip : begins x ws[i] = false → out ++ callsOf x (ws.drop (i + 1)) (i + 1) = callsOf x ws 0 := fun h => by
   rw [hst, h] at hout; simpa using hout
  have hput : begins x ws[i] = true → (out ++ [scan ws[i].t.thread x (ws.drop (i + 1)) (i + 1) ⟨opOf ws[i].t, -1, false, okO, 0⟩]) ++ callsOf x (ws.drop (i + 1)) (i + 1) = callsOf x ws 0 := fun h => by
   rw [hst, h] at hout; simpa using hout
  clear hst hout
  generalize hwi : ws[i] = wi at *
  have no : ¬ (fine 5 wi ∧ isThread wi.t.thread ∧ whose wi wi.t.thread x) → begins x wi = false := fun h => decide_eq_false h
  repeat' (first|refine Gm0 fun _=>?_|refine Gm1 ?_|refine Gm2 (fun _=>?_) fun _=>?_|refine Gm3 ?_|refine Gm4 fun _=>?_|fail)
  rename_i b6
  refine OW.call (jFine wi.t wi.r vb vd vo _ bp wi.b 5 _ wi ⟨rfl, rfl⟩) ?_
  rintro _ _ ⟨rfl, rfl⟩
  by_cases c1 : fine 5 wi
  ·rw [decide_eq_true c1]
   repeat' (first|refine Gm0 fun _=>?_|refine Gm1 ?_|refine Gm2 (fun _=>?_) fun _=>?_|refine Gm3 ?_|refine Gm4 fun _=>?_|fail)
   refine OW.call (jThread wi.t.thread _) ?_
   rintro _ _ ⟨rfl, rfl⟩
   by_cases c2 : isThread wi.t.thread
   ·rw [decide_eq_true c2]
    repeat' (first|refine Gm0 fun _=>?_|refine Gm1 ?_|refine Gm2 (fun _=>?_) fun _=>?_|refine Gm3 ?_|refine Gm4 fun _=>?_|fail)
    refine OW.call (jWhose wi vb vd vo _ bp wi.t.thread x _ (Bm.to hbm)) ?_
    rintro _ _ ⟨rfl, rfl⟩
    by_cases c3 : whose wi wi.t.thread x
    ·rw [decide_eq_true c3]
     have hput := hput (decide_eq_true ⟨c1, c2, c3⟩)
     repeat' (first|refine Gm0 fun _=>?_|refine Gm1 ?_|refine Gm2 (fun _=>?_) fun _=>?_|refine Gm3 ?_|refine Gm4 fun _=>?_|fail)
     rename_i b7
     refine OW.call (jPlaces _ (i : Int) wi.t.thread x _ ii) ?_
     rintro _ _ ⟨ch, ca, cn, cx, rfl, rfl⟩
     repeat' (first|refine Gm0 fun _=>?_|refine Gm1 ?_|refine Gm2 (fun _=>?_) fun _=>?_|refine Gm3 ?_|refine Gm4 fun _=>?_|fail)
     refine CW.rangeFunc (fun lp DD rec hrec => ?_)
     refine (jPlaces1 (.func (.yield lp) #[] #[]) _ ch ca cn cx ws i wi.t.thread x
      (fun k Lx => ∃ L', Lx = [(lp, rec .ready none), (DD, .deferred (some [])), (cx, xCell x), (cn, iCell wi.t.thread), (ca, iCell (i : Int)), (ch, hCell (.slice (some ⟨bk, kk, none⟩) ws.length cv))] ++ L' ∧ ∃ c vq, L' = (b7, .cells (clC c vb vq).toArray 123 (0, 0)) :: (b6, .cells (wcells wi.t wi.r vb vd vo (wi.at_ : Int) bp).toArray 132 (0, 0)) :: (X ++ (N ++ (markB Ds ++ ((b3, xCell x) :: L)))) ∧ BS D vq c.out.bytes ∧ c.op = opOf wi.t ∧ OutR0 c.out ∧ -1 ≤ c.work ∧ c.work < (ws.length : Int) ∧ 0 ≤ c.steps ∧ c.steps ≤ (k : Int) ∧ scan wi.t.thread x (ws.drop k) k c = scan wi.t.thread x (ws.drop (i + 1)) (i + 1) ⟨opOf wi.t, -1, false, okO, 0⟩)
      (fun Lx => ∃ c vq k, (Lx = (lp, rec .ready none) :: (DD, .deferred (some [])) :: (cx, xCell x) :: (cn, iCell wi.t.thread) :: (ca, iCell (i : Int)) :: (ch, hCell (.slice (some ⟨bk, kk, none⟩) ws.length cv)) :: (b7, .cells (clC c vb vq).toArray 123 (0, 0)) :: (b6, .cells (wcells wi.t wi.r vb vd vo (wi.at_ : Int) bp).toArray 132 (0, 0)) :: (X ++ (N ++ (markB Ds ++ ((b3, xCell x) :: L)))) ∨ Lx = (lp, rec .done (some (.exit 2))) :: (DD, .deferred (some [])) :: (cx, xCell x) :: (cn, iCell wi.t.thread) :: (ca, iCell (i : Int)) :: (ch, hCell (.slice (some ⟨bk, kk, none⟩) ws.length cv)) :: (b7, .cells (clC c vb vq).toArray 123 (0, 0)) :: (b6, .cells (wcells wi.t wi.r vb vd vo (wi.at_ : Int) bp).toArray 132 (0, 0)) :: (X ++ (N ++ (markB Ds ++ ((b3, xCell x) :: L))))) ∧ BS D vq c.out.bytes ∧ c.op = opOf wi.t ∧ OutR0 c.out ∧ -1 ≤ c.work ∧ c.work < (ws.length : Int) ∧ 0 ≤ c.steps ∧ c.steps ≤ (k : Int) ∧ k ≤ ws.length ∧ c = scan wi.t.thread x (ws.drop (i + 1)) (i + 1) ⟨opOf wi.t, -1, false, okO, 0⟩)
      D _ ii hv hlt ⟨_, rfl, ⟨opOf wi.t, -1, false, okO, 0⟩, .slice none 0 0, rfl, BS.nil _, rfl, okR, Int.le_refl _, by show (-1 : Int) < ws.length; omega, Int.le_refl _, by show (0 : Int) ≤ ((i + 1 : Nat) : Int); omega, rfl⟩ ?_ _).mono ?_ (fun _ _ h => h.elim)
     ·rintro k _ ⟨L', rfl, c, vq, rfl, g1, g2, g3, g4, g5, g6, g7, g8⟩
      have sq := g1.sng
      refine ⟨ii, ii, ii, ii, ii, fun hk hik hwh hst M vz hvz => ?_, fun hk hik hwh hst => ?_, fun hk hik hwh => ?_, fun hk => ?_⟩
      ·have sz := hvz.sng
       rw [scan_step hk, if_neg (not_not_intro hwh), if_pos hst] at g8
       obtain ⟨ccr, hcutr, vb2, vd2, vo2, bp2, he2, hvb2, hvd2, hvo2, htr2, hrr2, hbm2⟩ := hbn k hk
       have ho2 : OutR0 (outOf ws[k].r) := ⟨hrr2.oerrno, hrr2.oad, hrr2.on⟩
       clear hcutr he2 hvb2 hvd2 hvo2 htr2 hrr2 hbm2
       generalize ws[k] = wk at *
       refine VP.yield2 hrec (by decide) (by decide) (fun w0 => ?_)
       have hkl : (k : Int) < ws.length := by omega
       by_cases h1 : wk.r.dkind = 1
       ·cases hd : wk.r.done with
        | true =>
         rw [hd] at g8
         simp only [if_true, if_false, Bool.false_eq_true] at g8
         have hc : clStep c k wk.r = ⟨c.op, c.work, true, outOf wk.r, c.steps⟩ := by unfold clStep; simp [h1, hd]
         rw [hc] at g8
         rw [show didC wk.r vz = [.int .i64 wk.r.dkind, .int .i64 wk.r.dat, .bool true, .int .i64 wk.r.oerrno, .int .u32 wk.r.oad, .int .i64 wk.r.on, vz] from by unfold didC; rw [hd]]
         repeat' (first|refine Gm0 fun _=>?_|refine Gm1 ?_|refine Gm2 (fun _=>?_) fun _=>?_|refine Gm3 ?_|refine Gm4 fun _=>?_|fail)
         refine beginR ?_
         repeat' (first|refine Gm0 fun _=>?_|refine Gm1 ?_|refine Gm2 (fun _=>?_) fun _=>?_|refine Gm3 ?_|refine Gm4 fun _=>?_|fail)
         refine roundK.exit ?_
         exact ⟨[_], _, rfl, .inr ⟨rfl, ⟨c.op, c.work, true, outOf wk.r, c.steps⟩, vz, k + 1, .inr rfl, (by show BS D vz wk.r.obytes; exact hvz), g2, ho2, by show -1 ≤ c.work; omega, by show c.work < (ws.length : Int); omega, by show 0 ≤ c.steps; omega, by show c.steps ≤ ((k + 1 : Nat) : Int); omega, by omega, g8⟩⟩
        | false =>
         rw [hd] at g8
         simp only [if_true, if_false, Bool.false_eq_true] at g8
         have hc : clStep c k wk.r = ⟨c.op, c.work, c.told, c.out, c.steps⟩ := by unfold clStep; simp [h1, hd]
         rw [hc] at g8
         rw [show didC wk.r vz = [.int .i64 wk.r.dkind, .int .i64 wk.r.dat, .bool false, .int .i64 wk.r.oerrno, .int .u32 wk.r.oad, .int .i64 wk.r.on, vz] from by unfold didC; rw [hd]]
         repeat' (first|refine Gm0 fun _=>?_|refine Gm1 ?_|refine Gm2 (fun _=>?_) fun _=>?_|refine Gm3 ?_|refine Gm4 fun _=>?_|fail)
         refine beginR ?_
         repeat' (first|refine Gm0 fun _=>?_|refine Gm1 ?_|refine Gm2 (fun _=>?_) fun _=>?_|refine Gm3 ?_|refine Gm4 fun _=>?_|fail)
         refine roundK.nrm ?_
         exact ⟨[_], _, rfl, .inl ⟨rfl, _, rfl, ⟨c.op, c.work, c.told, c.out, c.steps⟩, vq, rfl, (by show BS D vq c.out.bytes; exact g1), g2, g3, by show -1 ≤ c.work; omega, by show c.work < (ws.length : Int); omega, by show 0 ≤ c.steps; omega, by show c.steps ≤ ((k + 1 : Nat) : Int); omega, g8⟩⟩
       ·by_cases h3 : wk.r.dkind = 3
        ·by_cases hw : c.work < 0
         ·cases hd : wk.r.done with
          | true =>
           rw [hd] at g8
           simp only [if_true, if_false, Bool.false_eq_true] at g8
           have hc : clStep c k wk.r = ⟨c.op, (k : Int), true, outOf wk.r, c.steps + 1⟩ := by unfold clStep; simp [h1, h3, hw, hd]
           rw [hc] at g8
           rw [show didC wk.r vz = [.int .i64 wk.r.dkind, .int .i64 wk.r.dat, .bool true, .int .i64 wk.r.oerrno, .int .u32 wk.r.oad, .int .i64 wk.r.on, vz] from by unfold didC; rw [hd]]
           repeat' (first|refine Gm0 fun _=>?_|refine Gm1 ?_|refine Gm2 (fun _=>?_) fun _=>?_|refine Gm3 ?_|refine Gm4 fun _=>?_|fail)
           refine beginR ?_
           repeat' (first|refine Gm0 fun _=>?_|refine Gm1 ?_|refine Gm2 (fun _=>?_) fun _=>?_|refine Gm3 ?_|refine Gm4 fun _=>?_|fail)
           refine roundK.exit ?_
           exact ⟨[_], _, rfl, .inr ⟨rfl, ⟨c.op, (k : Int), true, outOf wk.r, c.steps + 1⟩, vz, k + 1, .inr rfl, (by show BS D vz wk.r.obytes; exact hvz), g2, ho2, by show -1 ≤ (k : Int); omega, by show (k : Int) < (ws.length : Int); omega, by show 0 ≤ c.steps + 1; omega, by show c.steps + 1 ≤ ((k + 1 : Nat) : Int); omega, by omega, g8⟩⟩
          | false =>
           rw [hd] at g8
           simp only [if_true, if_false, Bool.false_eq_true] at g8
           have hc : clStep c k wk.r = ⟨c.op, (k : Int), c.told, c.out, c.steps + 1⟩ := by unfold clStep; simp [h1, h3, hw, hd]
           rw [hc] at g8
           rw [show didC wk.r vz = [.int .i64 wk.r.dkind, .int .i64 wk.r.dat, .bool false, .int .i64 wk.r.oerrno, .int .u32 wk.r.oad, .int .i64 wk.r.on, vz] from by unfold didC; rw [hd]]
           repeat' (first|refine Gm0 fun _=>?_|refine Gm1 ?_|refine Gm2 (fun _=>?_) fun _=>?_|refine Gm3 ?_|refine Gm4 fun _=>?_|fail)
           refine beginR ?_
           repeat' (first|refine Gm0 fun _=>?_|refine Gm1 ?_|refine Gm2 (fun _=>?_) fun _=>?_|refine Gm3 ?_|refine Gm4 fun _=>?_|fail)
           refine roundK.nrm ?_
           exact ⟨[_], _, rfl, .inl ⟨rfl, _, rfl, ⟨c.op, (k : Int), c.told, c.out, c.steps + 1⟩, vq, rfl, (by show BS D vq c.out.bytes; exact g1), g2, g3, by show -1 ≤ (k : Int); omega, by show (k : Int) < (ws.length : Int); omega, by show 0 ≤ c.steps + 1; omega, by show c.steps + 1 ≤ ((k + 1 : Nat) : Int); omega, g8⟩⟩
         ·cases hd : wk.r.done with
          | true =>
           rw [hd] at g8
           simp only [if_true, if_false, Bool.false_eq_true] at g8
           have hc : clStep c k wk.r = ⟨c.op, c.work, true, outOf wk.r, c.steps + 1⟩ := by unfold clStep; simp [h1, h3, hw, hd]
           rw [hc] at g8
           rw [show didC wk.r vz = [.int .i64 wk.r.dkind, .int .i64 wk.r.dat, .bool true, .int .i64 wk.r.oerrno, .int .u32 wk.r.oad, .int .i64 wk.r.on, vz] from by unfold didC; rw [hd]]
           repeat' (first|refine Gm0 fun _=>?_|refine Gm1 ?_|refine Gm2 (fun _=>?_) fun _=>?_|refine Gm3 ?_|refine Gm4 fun _=>?_|fail)
           refine beginR ?_
           repeat' (first|refine Gm0 fun _=>?_|refine Gm1 ?_|refine Gm2 (fun _=>?_) fun _=>?_|refine Gm3 ?_|refine Gm4 fun _=>?_|fail)
           refine roundK.exit ?_
           exact ⟨[_], _, rfl, .inr ⟨rfl, ⟨c.op, c.work, true, outOf wk.r, c.steps + 1⟩, vz, k + 1, .inr rfl, (by show BS D vz wk.r.obytes; exact hvz), g2, ho2, by show -1 ≤ c.work; omega, by show c.work < (ws.length : Int); omega, by show 0 ≤ c.steps + 1; omega, by show c.steps + 1 ≤ ((k + 1 : Nat) : Int); omega, by omega, g8⟩⟩
          | false =>
           rw [hd] at g8
           simp only [if_true, if_false, Bool.false_eq_true] at g8
           have hc : clStep c k wk.r = ⟨c.op, c.work, c.told, c.out, c.steps + 1⟩ := by unfold clStep; simp [h1, h3, hw, hd]
           rw [hc] at g8
           rw [show didC wk.r vz = [.int .i64 wk.r.dkind, .int .i64 wk.r.dat, .bool false, .int .i64 wk.r.oerrno, .int .u32 wk.r.oad, .int .i64 wk.r.on, vz] from by unfold didC; rw [hd]]
           repeat' (first|refine Gm0 fun _=>?_|refine Gm1 ?_|refine Gm2 (fun _=>?_) fun _=>?_|refine Gm3 ?_|refine Gm4 fun _=>?_|fail)
           refine beginR ?_
           repeat' (first|refine Gm0 fun _=>?_|refine Gm1 ?_|refine Gm2 (fun _=>?_) fun _=>?_|refine Gm3 ?_|refine Gm4 fun _=>?_|fail)
           refine roundK.nrm ?_
           exact ⟨[_], _, rfl, .inl ⟨rfl, _, rfl, ⟨c.op, c.work, c.told, c.out, c.steps + 1⟩, vq, rfl, (by show BS D vq c.out.bytes; exact g1), g2, g3, by show -1 ≤ c.work; omega, by show c.work < (ws.length : Int); omega, by show 0 ≤ c.steps + 1; omega, by show c.steps + 1 ≤ ((k + 1 : Nat) : Int); omega, g8⟩⟩
        ·cases hd : wk.r.done with
         | true =>
          rw [hd] at g8
          simp only [if_true, if_false, Bool.false_eq_true] at g8
          have hc : clStep c k wk.r = ⟨c.op, c.work, true, outOf wk.r, c.steps + 1⟩ := by unfold clStep; simp [h1, h3, hd]
          rw [hc] at g8
          rw [show didC wk.r vz = [.int .i64 wk.r.dkind, .int .i64 wk.r.dat, .bool true, .int .i64 wk.r.oerrno, .int .u32 wk.r.oad, .int .i64 wk.r.on, vz] from by unfold didC; rw [hd]]
          repeat' (first|refine Gm0 fun _=>?_|refine Gm1 ?_|refine Gm2 (fun _=>?_) fun _=>?_|refine Gm3 ?_|refine Gm4 fun _=>?_|fail)
          refine beginR ?_
          repeat' (first|refine Gm0 fun _=>?_|refine Gm1 ?_|refine Gm2 (fun _=>?_) fun _=>?_|refine Gm3 ?_|refine Gm4 fun _=>?_|fail)
          refine roundK.exit ?_
          exact ⟨[_], _, rfl, .inr ⟨rfl, ⟨c.op, c.work, true, outOf wk.r, c.steps + 1⟩, vz, k + 1, .inr rfl, (by show BS D vz wk.r.obytes; exact hvz), g2, ho2, by show -1 ≤ c.work; omega, by show c.work < (ws.length : Int); omega, by show 0 ≤ c.steps + 1; omega, by show c.steps + 1 ≤ ((k + 1 : Nat) : Int); omega, by omega, g8⟩⟩
         | false =>
          rw [hd] at g8
          simp only [if_true, if_false, Bool.false_eq_true] at g8
          have hc : clStep c k wk.r = ⟨c.op, c.work, c.told, c.out, c.steps + 1⟩ := by unfold clStep; simp [h1, h3, hd]
          rw [hc] at g8
          rw [show didC wk.r vz = [.int .i64 wk.r.dkind, .int .i64 wk.r.dat, .bool false, .int .i64 wk.r.oerrno, .int .u32 wk.r.oad, .int .i64 wk.r.on, vz] from by unfold didC; rw [hd]]
          repeat' (first|refine Gm0 fun _=>?_|refine Gm1 ?_|refine Gm2 (fun _=>?_) fun _=>?_|refine Gm3 ?_|refine Gm4 fun _=>?_|fail)
          refine beginR ?_
          repeat' (first|refine Gm0 fun _=>?_|refine Gm1 ?_|refine Gm2 (fun _=>?_) fun _=>?_|refine Gm3 ?_|refine Gm4 fun _=>?_|fail)
          refine roundK.nrm ?_
          exact ⟨[_], _, rfl, .inl ⟨rfl, _, rfl, ⟨c.op, c.work, c.told, c.out, c.steps + 1⟩, vq, rfl, (by show BS D vq c.out.bytes; exact g1), g2, g3, by show -1 ≤ c.work; omega, by show c.work < (ws.length : Int); omega, by show 0 ≤ c.steps + 1; omega, by show c.steps + 1 ≤ ((k + 1 : Nat) : Int); omega, g8⟩⟩
      ·rw [scan_step hk, if_neg (not_not_intro hwh), if_neg hst] at g8
       exact ⟨_, rfl, c, vq, rfl, g1, g2, g3, g4, g5, g6, by omega, g8⟩
      ·rw [scan_step hk, if_pos hwh] at g8
       exact ⟨c, vq, k, .inl rfl, g1, g2, g3, g4, g5, g6, g7, by omega, g8⟩
      ·rw [scan_end hk] at g8
       exact ⟨c, vq, k, .inl rfl, g1, g2, g3, g4, g5, g6, g7, by omega, g8⟩
     ·have hq13 : ∀ c vq, Sng vq → ∀ z ∈ clC c vb vq, Sng z := fun c vq sq z hz => by
       simp only [clC, List.mem_cons, List.not_mem_nil, or_false] at hz
       rcases hz with rfl | rfl | rfl | rfl | rfl | rfl | rfl | rfl | rfl | rfl | rfl | rfl | rfl <;> first | infer_instance | assumption
      have hopr : OpR0 (opOf wi.t) := ⟨htr.okind, htr.oat, htr.osize, htr.omult, htr.omany⟩
      rintro u _ ⟨c, vq, k, hLx, g1, g2, g3, g4, g5, g6, g7, g8, g9⟩
      have sq := g1.sng
      rw [← g9] at hput
      have hclat : ClAt ws.length D (clC c vb vq) c := ⟨vb, vq, rfl, by rw [g2]; exact hvb, g1, by rw [g2]; exact hopr, g3, g4, g5, g6, by omega⟩
      have hlq : LAt 13 (ClAt ws.length D) (clC c vb vq) [c] := LAt.one rfl hclat
      clear hbn hskip
      rcases hLx with rfl | rfl
      ·refine rangeK.nrm ?_
       repeat' (first|refine Gm0 fun _=>?_|refine Gm1 ?_|refine Gm2 (fun _=>?_) fun _=>?_|refine Gm3 ?_|refine Gm4 fun _=>?_|fail)
       rename_i bt
       refine OW.perm ((List.Perm.swap (DD, Obj.deferred (some [])) (bt, Obj.cells (clC c vb vq).toArray 123 (0, 0)) _).trans (perm_mark (X := (bt, .cells (clC c vb vq).toArray 123 (0, 0)) :: (cx, xCell x) :: (cn, iCell wi.t.thread) :: (ca, iCell (i : Int)) :: (ch, hCell (.slice (some ⟨bk, kk, none⟩) ws.length cv)) :: (b7, .cells (clC c vb vq).toArray 123 (0, 0)) :: (b6, .cells (wcells wi.t wi.r vb vd vo (wi.at_ : Int) bp).toArray 132 (0, 0)) :: X))) ?_
       refine OW.append hrow ii (Rd.blk (n := 1) (l := clC c vb vq) rfl (Nat.le_refl _)) (hq13 c vq sq) (by omega) (fun w' N' hrow' => ?_)
       have sw' := hrow'.sng
       repeat' (first|refine Gm0 fun _=>?_|refine Gm1 ?_|refine Gm2 (fun _=>?_) fun _=>?_|refine Gm3 ?_|refine Gm4 fun _=>?_|fail)
       exact ⟨hlt, _, N', DD :: Ds, w', _, out ++ [c], rfl, rfl, by rw [List.length_append]; exact hrow', LAt.append hlat hlq, hput, by simp; omega, ii, ii, ii, ii, ii, by rw [Int.natCast_add]; infer_instance⟩
      ·refine rangeK.jump (c := .exit 2) ?_
       repeat' (first|refine Gm0 fun _=>?_|refine Gm1 ?_|refine Gm2 (fun _=>?_) fun _=>?_|refine Gm3 ?_|refine Gm4 fun _=>?_|fail)
       rename_i bt
       refine OW.perm ((List.Perm.swap (DD, Obj.deferred (some [])) (bt, Obj.cells (clC c vb vq).toArray 123 (0, 0)) _).trans (perm_mark (X := (bt, .cells (clC c vb vq).toArray 123 (0, 0)) :: (cx, xCell x) :: (cn, iCell wi.t.thread) :: (ca, iCell (i : Int)) :: (ch, hCell (.slice (some ⟨bk, kk, none⟩) ws.length cv)) :: (b7, .cells (clC c vb vq).toArray 123 (0, 0)) :: (b6, .cells (wcells wi.t wi.r vb vd vo (wi.at_ : Int) bp).toArray 132 (0, 0)) :: X))) ?_
       refine OW.append hrow ii (Rd.blk (n := 1) (l := clC c vb vq) rfl (Nat.le_refl _)) (hq13 c vq sq) (by omega) (fun w' N' hrow' => ?_)
       have sw' := hrow'.sng
       repeat' (first|refine Gm0 fun _=>?_|refine Gm1 ?_|refine Gm2 (fun _=>?_) fun _=>?_|refine Gm3 ?_|refine Gm4 fun _=>?_|fail)
       exact ⟨hlt, _, N', DD :: Ds, w', _, out ++ [c], rfl, rfl, by rw [List.length_append]; exact hrow', LAt.append hlat hlq, hput, by simp; omega, ii, ii, ii, ii, ii, by rw [Int.natCast_add]; infer_instance⟩
    ·rw [decide_eq_false c3]
     repeat' (first|refine Gm0 fun _=>?_|refine Gm1 ?_|refine Gm2 (fun _=>?_) fun _=>?_|refine Gm3 ?_|refine Gm4 fun _=>?_|fail)
     exact ⟨hlt, _ :: X, N, Ds, w, xs, out, rfl, rfl, hrow, hlat, hskip (no fun h => c3 h.2.2), by omega, ii, ii, ii, ii, ii, by rw [Int.natCast_add]; infer_instance⟩
   ·rw [decide_eq_false c2]
    repeat' (first|refine Gm0 fun _=>?_|refine Gm1 ?_|refine Gm2 (fun _=>?_) fun _=>?_|refine Gm3 ?_|refine Gm4 fun _=>?_|fail)
    exact ⟨hlt, _ :: X, N, Ds, w, xs, out, rfl, rfl, hrow, hlat, hskip (no fun h => c2 h.2.1), by omega, ii, ii, ii, ii, ii, by rw [Int.natCast_add]; infer_instance⟩
  ·rw [decide_eq_false c1]
   repeat' (first|refine Gm0 fun _=>?_|refine Gm1 ?_|refine Gm2 (fun _=>?_) fun _=>?_|refine Gm3 ?_|refine Gm4 fun _=>?_|fail)
   exact ⟨hlt, _ :: X, N, Ds, w, xs, out, rfl, rfl, hrow, hlat, hskip (no fun h => c1 h.1), by omega, ii, ii, ii, ii, ii, by rw [Int.natCast_add]; infer_instance⟩
 ·obtain rfl : i = ws.length := by omega
  have hnil : callsOf x (ws.drop ws.length) ws.length = [] := by rw [List.drop_length]; rfl
  rw [hnil, List.append_nil] at hout
  repeat' (first|refine Gm0 fun _=>?_|refine Gm1 ?_|refine Gm2 (fun _=>?_) fun _=>?_|refine Gm3 ?_|refine Gm4 fun _=>?_|fail)
  rw [show X ++ (N ++ (markB Ds ++ ((b3, xCell x) :: L))) = (X ++ N) ++ (markB Ds ++ ((b3, xCell x) :: L)) from (List.append_assoc ..).symm]
  refine bodyM.retMs (N ++ L) (fun L => Res.one Tryz.results46) (List.Sublist.append (List.sublist_append_right X N) (List.sublist_cons_self ..)) ⟨N, rfl, xs, ?_⟩
  rw [← hout]
  exact ⟨hrow, hlat, hol⟩
end Go.Proofs.YtmnhooepaemlcaaGreat
