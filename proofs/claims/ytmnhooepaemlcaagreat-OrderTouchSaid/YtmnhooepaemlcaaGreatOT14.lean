/-
  For every input the law OrderTouch returns true, and each argument reads behind the call as it read before. This text holds lemmas for it (part 14).
  Conditions: none.
-/
import Derived.Test.YtmnhooepaemlcaaGreatOT2
import Derived.Test.YtmnhooepaemlcaaGreatOT3
import Derived.Test.YtmnhooepaemlcaaGreatOT11
import Derived.Test.YtmnhooepaemlcaaGreatOT13
set_option linter.all false
namespace Go.Proofs.YtmnhooepaemlcaaGreat
open Go Go.Pw Go.Pw.Sc Go.Pw.Md Go.Pw.Or
set_option maxRecDepth 100000
set_option maxHeartbeats 4000000
set_option synthInstance.maxHeartbeats 400000
set_option synthInstance.maxSize 2000
attribute [local irreducible] CW OW RW thenK blockK
attribute [local irreducible] scopeK loopK TRW ATW
theorem rAhead (a b : Td) (v1 v2 v3 v4 : Value) (L : Chunk) [s1 : Sng v1] [s2 : Sng v2] [s3 : Sng v3] [s4 : Sng v4] : Fn1 Tryz.prog 42 [.agg (tdC a v1 v2).toArray, .agg (tdC b v3 v4).toArray] L (fun u L' => u = .bool (decide (aheadP a b)) ∧ L = L') := by
 intro w0; refine Spec.enter2 Tryz.func42 rfl Tryz.ntmps42 (by decide) ?_
 by_cases h : a.to_ < b.from_
 ·rw [show decide (aheadP a b) = true from decide_eq_true h]
  repeat' (first|refine Ga0 fun _=>?_|refine Ga1 ?_|refine Ga2 (fun _=>?_) fun _=>?_|refine Ga3 ?_|refine Ga4 fun _=>?_|fail)
  exact bodyK.retD L (Res.one Tryz.results42) ⟨rfl, rfl⟩
 ·rw [show decide (aheadP a b) = false from decide_eq_false h]
  repeat' (first|refine Ga0 fun _=>?_|refine Ga1 ?_|refine Ga2 (fun _=>?_) fun _=>?_|refine Ga3 ?_|refine Ga4 fun _=>?_|fail)
  exact bodyK.retD L (Res.one Tryz.results42) ⟨rfl, rfl⟩
end Go.Proofs.YtmnhooepaemlcaaGreat
