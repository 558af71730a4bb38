/-
  No cell of these rows narrows 'for every input' (looked for: loops, veiled, ifaces, maps, wideKeys, modest, calm, conditions, laid).
  DERIVED. THE GIVEN ROWS OF THIS SEAT. 6 by the template 'for every input the law returns true; each argument reads behind the call as it read before'; 0 by the template 'total and deterministic' (their statements: YtmnhooepaemlcaaGreatTotals.lean).
  GIVEN WITH THE SEED: the statements are not yours to turn. If you find one false, say at which input.
  Laid BY PROGRAM, IN A SANDBOX (cutbox-rows.mjs): the forced cells as the released guide's own fill.sh prints them over the translation 59cdd142bba84b20… (all of the seat's roots in one cut). By AI agents, Wed Nov 11 2026. No macro, syntax, notation, axiom, sorry.
-/
import Derived.Test.YtmnhooepaemlcaaGreatChecked
import GoSem.Claim
import GoSem.ClaimJoined
import GoSem.ClaimMapViews
import Derived.JoinedTies
import Derived.KernelRfl
namespace Go.Proofs.YtmnhooepaemlcaaGreat
/- THE CELL 'sum', in the pinned program and in every row, IS THE sha256 OF THE DUMP (.gsa) THAT YtmnhooepaemlcaaGreatProg.lean LOADS. Nothing in Lean hashes anything: it is a label: what it is worth is what the hold of that sum in a sandbox is worth. -/
noncomputable def Tryz.pinned : Pinned := { name := "ytmnhooepaemlcaagreat", sum := "59cdd142bba84b20b74b531c347f8696b861d9de92638085016701c2c87a73a4", checked := Tryz.checked }
namespace Rows
def none {H : Type} : Left H := { results := [], args := [] }

/-- 'pinfoldlaw26.JudgeBounds': WHATEVER THE INPUT: true; the input reads as it did. -/
def judgeBoundsSpec : ChangeSpec := { name := "judgeBounds", fn := fun _ => fun
  | [d1, d2] => { results := [.lit (.bool true)], args := [d1, d2] }
  | _ => none }
def judgeBoundsRow : OpenClaim := { program := "ytmnhooepaemlcaagreat", sum := "59cdd142bba84b20b74b531c347f8696b861d9de92638085016701c2c87a73a4", func := "pinfold/pinfoldlaw26.JudgeBounds", spec := "judgeBounds", inPlace := ["maps.clone"], unfollowed := true, recurses := true, apart := false }
def JudgeBoundsSaid : Prop := judgeBoundsRow.holds Tryz.pinned (OpenSpec.ofChange judgeBoundsSpec)

/-- ITS FALSE NEIGHBOUR: 'it returns false'. Refute it at one input. -/
def judgeBoundsWrong : ChangeSpec := { name := "judgeBounds", fn := fun _ => fun
  | [d1, d2] => { results := [.lit (.bool false)], args := [d1, d2] }
  | _ => none }
def JudgeBoundsWrongFalsely : Prop := judgeBoundsRow.holds Tryz.pinned (OpenSpec.ofChange judgeBoundsWrong)

/-- 'pinfoldlaw23.ModelAlways': WHATEVER THE INPUT: true; the input reads as it did. -/
def modelAlwaysSpec : ChangeSpec := { name := "modelAlways", fn := fun _ => fun
  | [d1, d2, d3] => { results := [.lit (.bool true)], args := [d1, d2, d3] }
  | _ => none }
def modelAlwaysRow : OpenClaim := { program := "ytmnhooepaemlcaagreat", sum := "59cdd142bba84b20b74b531c347f8696b861d9de92638085016701c2c87a73a4", func := "pinfold/pinfoldlaw23.ModelAlways", spec := "modelAlways", inPlace := ["maps.clone"], unfollowed := true, recurses := true, apart := false }
def ModelAlwaysSaid : Prop := modelAlwaysRow.holds Tryz.pinned (OpenSpec.ofChange modelAlwaysSpec)

/-- ITS FALSE NEIGHBOUR: 'it returns false'. Refute it at one input. -/
def modelAlwaysWrong : ChangeSpec := { name := "modelAlways", fn := fun _ => fun
  | [d1, d2, d3] => { results := [.lit (.bool false)], args := [d1, d2, d3] }
  | _ => none }
def ModelAlwaysWrongFalsely : Prop := modelAlwaysRow.holds Tryz.pinned (OpenSpec.ofChange modelAlwaysWrong)

/-- 'pinfoldlaw23.ModelCopies': WHATEVER THE INPUT: true; the input reads as it did. -/
def modelCopiesSpec : ChangeSpec := { name := "modelCopies", fn := fun _ => fun
  | [d1, d2, d3] => { results := [.lit (.bool true)], args := [d1, d2, d3] }
  | _ => none }
def modelCopiesRow : OpenClaim := { program := "ytmnhooepaemlcaagreat", sum := "59cdd142bba84b20b74b531c347f8696b861d9de92638085016701c2c87a73a4", func := "pinfold/pinfoldlaw23.ModelCopies", spec := "modelCopies", inPlace := ["maps.clone"], unfollowed := true, recurses := true, apart := false }
def ModelCopiesSaid : Prop := modelCopiesRow.holds Tryz.pinned (OpenSpec.ofChange modelCopiesSpec)

/-- ITS FALSE NEIGHBOUR: 'it returns false'. Refute it at one input. -/
def modelCopiesWrong : ChangeSpec := { name := "modelCopies", fn := fun _ => fun
  | [d1, d2, d3] => { results := [.lit (.bool false)], args := [d1, d2, d3] }
  | _ => none }
def ModelCopiesWrongFalsely : Prop := modelCopiesRow.holds Tryz.pinned (OpenSpec.ofChange modelCopiesWrong)

/-- 'pinfoldlaw30.OrderCalls': WHATEVER THE INPUT: true; the input reads as it did. -/
def orderCallsSpec : ChangeSpec := { name := "orderCalls", fn := fun _ => fun
  | [d1, d2, d3] => { results := [.lit (.bool true)], args := [d1, d2, d3] }
  | _ => none }
def orderCallsRow : OpenClaim := { program := "ytmnhooepaemlcaagreat", sum := "59cdd142bba84b20b74b531c347f8696b861d9de92638085016701c2c87a73a4", func := "pinfold/pinfoldlaw30.OrderCalls", spec := "orderCalls", inPlace := ["maps.clone"], unfollowed := true, recurses := true, apart := false }
def OrderCallsSaid : Prop := orderCallsRow.holds Tryz.pinned (OpenSpec.ofChange orderCallsSpec)

/-- ITS FALSE NEIGHBOUR: 'it returns false'. Refute it at one input. -/
def orderCallsWrong : ChangeSpec := { name := "orderCalls", fn := fun _ => fun
  | [d1, d2, d3] => { results := [.lit (.bool false)], args := [d1, d2, d3] }
  | _ => none }
def OrderCallsWrongFalsely : Prop := orderCallsRow.holds Tryz.pinned (OpenSpec.ofChange orderCallsWrong)

/-- 'pinfoldlaw30.OrderLeast': WHATEVER THE INPUT: true; the input reads as it did. -/
def orderLeastSpec : ChangeSpec := { name := "orderLeast", fn := fun _ => fun
  | [d1, d2, d3] => { results := [.lit (.bool true)], args := [d1, d2, d3] }
  | _ => none }
def orderLeastRow : OpenClaim := { program := "ytmnhooepaemlcaagreat", sum := "59cdd142bba84b20b74b531c347f8696b861d9de92638085016701c2c87a73a4", func := "pinfold/pinfoldlaw30.OrderLeast", spec := "orderLeast", inPlace := ["maps.clone"], unfollowed := true, recurses := true, apart := false }
def OrderLeastSaid : Prop := orderLeastRow.holds Tryz.pinned (OpenSpec.ofChange orderLeastSpec)

/-- ITS FALSE NEIGHBOUR: 'it returns false'. Refute it at one input. -/
def orderLeastWrong : ChangeSpec := { name := "orderLeast", fn := fun _ => fun
  | [d1, d2, d3] => { results := [.lit (.bool false)], args := [d1, d2, d3] }
  | _ => none }
def OrderLeastWrongFalsely : Prop := orderLeastRow.holds Tryz.pinned (OpenSpec.ofChange orderLeastWrong)

/-- 'pinfoldlaw30.OrderTouch': WHATEVER THE INPUT: true; the input reads as it did. -/
def orderTouchSpec : ChangeSpec := { name := "orderTouch", fn := fun _ => fun
  | [d1, d2, d3] => { results := [.lit (.bool true)], args := [d1, d2, d3] }
  | _ => none }
def orderTouchRow : OpenClaim := { program := "ytmnhooepaemlcaagreat", sum := "59cdd142bba84b20b74b531c347f8696b861d9de92638085016701c2c87a73a4", func := "pinfold/pinfoldlaw30.OrderTouch", spec := "orderTouch", inPlace := ["maps.clone"], unfollowed := true, recurses := true, apart := false }
def OrderTouchSaid : Prop := orderTouchRow.holds Tryz.pinned (OpenSpec.ofChange orderTouchSpec)

/-- ITS FALSE NEIGHBOUR: 'it returns false'. Refute it at one input. -/
def orderTouchWrong : ChangeSpec := { name := "orderTouch", fn := fun _ => fun
  | [d1, d2, d3] => { results := [.lit (.bool false)], args := [d1, d2, d3] }
  | _ => none }
def OrderTouchWrongFalsely : Prop := orderTouchRow.holds Tryz.pinned (OpenSpec.ofChange orderTouchWrong)

/- THE SECOND FORM. 'bulk': how many values and letters a reading holds, each counted each time it is reached (what is shared counts as often as it is met; a slice's spare places count too). A statement '..UptoSaid' is the law's where the arguments, and the package variables that the reading takes, are together of bulk at most 1048576: NARROWER than '..Said'. Prove '..Said' where nothing that the law and all that it calls make is longer than what came in: it says more and counts as full. Else prove '..UptoSaid'. A law counts once. -/
mutual
def uptoBulk {H : Type} : DataW H → Nat
  | .lit (.string bytes) => bytes.length + 1
  | .lit _ => 1
  | .nil => 1
  | .ptr d => uptoBulk d + 1
  | .slice elems spare => uptoBulkAll elems + uptoBulkAll spare + 1
  | .agg parts => uptoBulkAll parts + 1
  | .iface _ d => uptoBulk d + 1
  | .map entries => uptoBulkEntries entries + 1
  | .held _ => 1
def uptoBulkAll {H : Type} : List (DataW H) → Nat
  | [] => 0
  | d :: r => uptoBulk d + uptoBulkAll r
def uptoBulkEntries {H : Type} : List (Lit × DataW H) → Nat
  | [] => 0
  | x :: r => uptoBulkEntry x + uptoBulkEntries r
def uptoBulkEntry {H : Type} : Lit × DataW H → Nat
  | (.string bytes, d) => bytes.length + uptoBulk d + 1
  | (_, d) => uptoBulk d + 1
 end
def uptoSmall : (H : Type) → List (DataW H) → Bool := fun _ ds => decide (uptoBulkAll ds ≤ 1048576)
def OpenSpec.upto (s : _root_.Go.ChangeSpec) : _root_.Go.OpenSpec := { _root_.Go.OpenSpec.ofChange s with cond := some uptoSmall }

/-- 'pinfoldlaw26.JudgeBounds', WHERE WHAT IT READS IS OF BULK AT MOST 1048576: true; the input reads as it did. -/
def judgeBoundsUptoRow : OpenClaim := { program := "ytmnhooepaemlcaagreat", sum := "59cdd142bba84b20b74b531c347f8696b861d9de92638085016701c2c87a73a4", func := "pinfold/pinfoldlaw26.JudgeBounds", spec := "judgeBounds", inPlace := ["maps.clone"], unfollowed := true, recurses := true, apart := false, narrowed := true }
def JudgeBoundsUptoSaid : Prop := judgeBoundsUptoRow.holds Tryz.pinned (OpenSpec.upto judgeBoundsSpec)

/-- 'pinfoldlaw23.ModelAlways', WHERE WHAT IT READS IS OF BULK AT MOST 1048576: true; the input reads as it did. -/
def modelAlwaysUptoRow : OpenClaim := { program := "ytmnhooepaemlcaagreat", sum := "59cdd142bba84b20b74b531c347f8696b861d9de92638085016701c2c87a73a4", func := "pinfold/pinfoldlaw23.ModelAlways", spec := "modelAlways", inPlace := ["maps.clone"], unfollowed := true, recurses := true, apart := false, narrowed := true }
def ModelAlwaysUptoSaid : Prop := modelAlwaysUptoRow.holds Tryz.pinned (OpenSpec.upto modelAlwaysSpec)

/-- 'pinfoldlaw23.ModelCopies', WHERE WHAT IT READS IS OF BULK AT MOST 1048576: true; the input reads as it did. -/
def modelCopiesUptoRow : OpenClaim := { program := "ytmnhooepaemlcaagreat", sum := "59cdd142bba84b20b74b531c347f8696b861d9de92638085016701c2c87a73a4", func := "pinfold/pinfoldlaw23.ModelCopies", spec := "modelCopies", inPlace := ["maps.clone"], unfollowed := true, recurses := true, apart := false, narrowed := true }
def ModelCopiesUptoSaid : Prop := modelCopiesUptoRow.holds Tryz.pinned (OpenSpec.upto modelCopiesSpec)

/-- 'pinfoldlaw30.OrderCalls', WHERE WHAT IT READS IS OF BULK AT MOST 1048576: true; the input reads as it did. -/
def orderCallsUptoRow : OpenClaim := { program := "ytmnhooepaemlcaagreat", sum := "59cdd142bba84b20b74b531c347f8696b861d9de92638085016701c2c87a73a4", func := "pinfold/pinfoldlaw30.OrderCalls", spec := "orderCalls", inPlace := ["maps.clone"], unfollowed := true, recurses := true, apart := false, narrowed := true }
def OrderCallsUptoSaid : Prop := orderCallsUptoRow.holds Tryz.pinned (OpenSpec.upto orderCallsSpec)

/-- 'pinfoldlaw30.OrderLeast', WHERE WHAT IT READS IS OF BULK AT MOST 1048576: true; the input reads as it did. -/
def orderLeastUptoRow : OpenClaim := { program := "ytmnhooepaemlcaagreat", sum := "59cdd142bba84b20b74b531c347f8696b861d9de92638085016701c2c87a73a4", func := "pinfold/pinfoldlaw30.OrderLeast", spec := "orderLeast", inPlace := ["maps.clone"], unfollowed := true, recurses := true, apart := false, narrowed := true }
def OrderLeastUptoSaid : Prop := orderLeastUptoRow.holds Tryz.pinned (OpenSpec.upto orderLeastSpec)

/-- 'pinfoldlaw30.OrderTouch', WHERE WHAT IT READS IS OF BULK AT MOST 1048576: true; the input reads as it did. -/
def orderTouchUptoRow : OpenClaim := { program := "ytmnhooepaemlcaagreat", sum := "59cdd142bba84b20b74b531c347f8696b861d9de92638085016701c2c87a73a4", func := "pinfold/pinfoldlaw30.OrderTouch", spec := "orderTouch", inPlace := ["maps.clone"], unfollowed := true, recurses := true, apart := false, narrowed := true }
def OrderTouchUptoSaid : Prop := orderTouchUptoRow.holds Tryz.pinned (OpenSpec.upto orderTouchSpec)

end Rows
end Go.Proofs.YtmnhooepaemlcaaGreat
