/-
  For every input the law OrderTouch returns true, and each argument reads behind the call as it read before. This text holds lemmas for it (part 8).
  Conditions: none.
-/
import Derived.Test.YtmnhooepaemlcaaGreatOT2
import Derived.Test.YtmnhooepaemlcaaGreatOT3
import Derived.Test.YtmnhooepaemlcaaGreatOT4
set_option linter.all false
namespace Go.Proofs.YtmnhooepaemlcaaGreat
open Go Go.Pw Go.Pw.Sc Go.Pw.Md
set_option maxRecDepth 100000
set_option maxHeartbeats 4000000
set_option synthInstance.maxHeartbeats 400000
set_option synthInstance.maxSize 2000
attribute [local irreducible] CW OW RW thenK blockK
attribute [local irreducible] scopeK loopK TRW ATW
theorem take_step {α : Type} {l : List α} {i : Nat} (h : i < l.length) : l.take (i + 1) = l.take i ++ [l[i]] := by rw [List.take_add_one, List.getElem?_eq_getElem h]; rfl
theorem wf_len2 {m : Mod} (h : WF m) : m.L.length ≤ 1073741824 := by
 have key : ∀ l : List Pc, (∀ p ∈ l, PcOk p) → (l.length : Int) ≤ (l.map Pc.room).sum := by
  intro l
  induction l with
  | nil => intro _; simp
  | cons p l ih =>
   intro hok
   have := ih fun q hq => hok q (List.mem_cons_of_mem _ hq)
   have := (hok p (List.mem_cons_self ..)).room
   simp only [List.length_cons, List.map_cons, List.sum_cons]
   omega
 have h1 := key m.L h.ok
 have h2 := h.charge
 have h3 := h.quota1
 unfold Mod.charge at h2
 omega
end Go.Proofs.YtmnhooepaemlcaaGreat

namespace Go.Proofs.YtmnhooepaemlcaaGreat
open Go Go.Pw Go.Pw.Sc Go.Pw.Md
set_option maxRecDepth 100000
set_option maxHeartbeats 4000000
set_option synthInstance.maxHeartbeats 400000
set_option synthInstance.maxSize 2000
attribute [local irreducible] CW OW RW thenK blockK
attribute [local irreducible] scopeK loopK TRW ATW
end Go.Proofs.YtmnhooepaemlcaaGreat
