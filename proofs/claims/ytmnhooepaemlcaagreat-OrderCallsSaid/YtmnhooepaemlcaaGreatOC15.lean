/- OrderCalls: true for every input; arguments as before. Part 15. Conditions: none. -/
import Derived.Test.YtmnhooepaemlcaaGreatOC2
import Derived.Test.YtmnhooepaemlcaaGreatOC3
import Derived.Test.YtmnhooepaemlcaaGreatOC7
import Derived.Test.YtmnhooepaemlcaaGreatOC13
import Derived.Test.YtmnhooepaemlcaaGreatOC14
set_option linter.all false
namespace Go.Proofs.YtmnhooepaemlcaaGreat
open Go Go.Pw Go.Pw.Sc Go.Pw.Md Go.Pw.Or
set_option maxRecDepth 100000
set_option maxHeartbeats 4000000
set_option synthInstance.maxHeartbeats 400000
set_option synthInstance.maxSize 2000
attribute [local irreducible] CW OW RW thenK blockK
attribute [local irreducible] scopeK loopK TRW ATW
open Go Go.Pw Go.Pw.Sc Go.Pw.Md
theorem opR_ {x : OpM} (h : OpR0 x) : OpR x := ⟨h.kind, h.ad, h.size, h.mult, h.many⟩
theorem outR_ {o : OutM} (h : OutR0 o) : OutR o := ⟨h.errno, h.ad, h.n⟩
theorem kind_ (x : Int) (L : Chunk) : Fn1 Tryz.prog 18 [.int .i64 x] L (fun u L' => u = .bool (decide (1 ≤ x ∧ x ≤ 7)) ∧ L = L') := by
 intro w0; refine Spec.enter1 Tryz.func18 rfl Tryz.ntmps18 (by decide) ?_
 repeat' (first|refine Ga0 fun _=>?_|refine Ga1 ?_|refine Ga2 (fun _=>?_) fun _=>?_|refine Ga3 ?_|fail)
 ·exact bodyK.retD L (Res.one Tryz.results18) ⟨by rw [decide_eq_true (by omega)], rfl⟩
 ·exact bodyK.retD L (Res.one Tryz.results18) ⟨by rw [decide_eq_false (by omega)], rfl⟩
 ·exact bodyK.retD L (Res.one Tryz.results18) ⟨by rw [decide_eq_false (by omega)], rfl⟩
end Go.Proofs.YtmnhooepaemlcaaGreat
