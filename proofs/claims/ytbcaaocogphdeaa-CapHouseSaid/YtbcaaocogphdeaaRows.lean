/-
  No cell of these rows narrows 'for every input' (looked for: loops, veiled, ifaces, maps, wideKeys, modest, calm, conditions, laid).
  DERIVED. THE GIVEN ROWS OF THIS SEAT. 10 by the template 'for every input the law returns true; each argument reads behind the call as it read before'; 0 by the template 'total and deterministic' (their statements: YtbcaaocogphdeaaTotals.lean).
  GIVEN WITH THE SEED: the statements are not yours to turn. If you find one false, say at which input.
  Laid BY PROGRAM, IN A SANDBOX (cutbox-rows.mjs): the forced cells as the released guide's own fill.sh prints them over the translation a95c20a741465395… (all of the seat's roots in one cut). By AI agents, Wed Nov 11 2026. No macro, syntax, notation, axiom, sorry.
-/
import Derived.Test.YtbcaaocogphdeaaChecked
import GoSem.Claim
import GoSem.ClaimJoined
import GoSem.ClaimMapViews
import Derived.JoinedTies
import Derived.KernelRfl
namespace Go.Proofs.Ytbcaaocogphdeaa
/- THE CELL 'sum', in the pinned program and in every row, IS THE sha256 OF THE DUMP (.gsa) THAT YtbcaaocogphdeaaProg.lean LOADS. Nothing in Lean hashes anything: it is a label: what it is worth is what the hold of that sum in a sandbox is worth. -/
noncomputable def Try.pinned : Pinned := { name := "ytbcaaocogphdeaa", sum := "a95c20a741465395818259d17391eb9dd8fe05bd536495d5bdc4d1c94cf97375", checked := Try.checked }
namespace Rows
def none {H : Type} : Left H := { results := [], args := [] }

/-- 'mootkeep4.BackOnce': WHATEVER THE INPUT: true; the input reads as it did. -/
def backOnceSpec : ChangeSpec := { name := "backOnce", fn := fun _ => fun
  | [d1, d2, d3] => { results := [.lit (.bool true)], args := [d1, d2, d3] }
  | _ => none }
def backOnceRow : OpenClaim := { program := "ytbcaaocogphdeaa", sum := "a95c20a741465395818259d17391eb9dd8fe05bd536495d5bdc4d1c94cf97375", func := "moothall/mootkeep4.BackOnce", spec := "backOnce", unfollowed := true, recurses := true, plainKeys := false, apart := false }
def BackOnceSaid : Prop := backOnceRow.holds Try.pinned (OpenSpec.ofChange backOnceSpec)

/-- ITS FALSE NEIGHBOUR: 'it returns false'. Refute it at one input. -/
def backOnceWrong : ChangeSpec := { name := "backOnce", fn := fun _ => fun
  | [d1, d2, d3] => { results := [.lit (.bool false)], args := [d1, d2, d3] }
  | _ => none }
def BackOnceWrongFalsely : Prop := backOnceRow.holds Try.pinned (OpenSpec.ofChange backOnceWrong)

/-- 'mootlaw4.BackApplies': WHATEVER THE INPUT: true; the input reads as it did. -/
def backAppliesSpec : ChangeSpec := { name := "backApplies", fn := fun _ => fun
  | [d1, d2] => { results := [.lit (.bool true)], args := [d1, d2] }
  | _ => none }
def backAppliesRow : OpenClaim := { program := "ytbcaaocogphdeaa", sum := "a95c20a741465395818259d17391eb9dd8fe05bd536495d5bdc4d1c94cf97375", func := "moothall/mootlaw4.BackApplies", spec := "backApplies", unfollowed := true, recurses := true, plainKeys := false, apart := false }
def BackAppliesSaid : Prop := backAppliesRow.holds Try.pinned (OpenSpec.ofChange backAppliesSpec)

/-- ITS FALSE NEIGHBOUR: 'it returns false'. Refute it at one input. -/
def backAppliesWrong : ChangeSpec := { name := "backApplies", fn := fun _ => fun
  | [d1, d2] => { results := [.lit (.bool false)], args := [d1, d2] }
  | _ => none }
def BackAppliesWrongFalsely : Prop := backAppliesRow.holds Try.pinned (OpenSpec.ofChange backAppliesWrong)

/-- 'mootkeep4.BackSteps': WHATEVER THE INPUT: true; the input reads as it did. -/
def backStepsSpec : ChangeSpec := { name := "backSteps", fn := fun _ => fun
  | [d1, d2, d3, d4] => { results := [.lit (.bool true)], args := [d1, d2, d3, d4] }
  | _ => none }
def backStepsRow : OpenClaim := { program := "ytbcaaocogphdeaa", sum := "a95c20a741465395818259d17391eb9dd8fe05bd536495d5bdc4d1c94cf97375", func := "moothall/mootkeep4.BackSteps", spec := "backSteps", unfollowed := true, recurses := true, plainKeys := false, apart := false }
def BackStepsSaid : Prop := backStepsRow.holds Try.pinned (OpenSpec.ofChange backStepsSpec)

/-- ITS FALSE NEIGHBOUR: 'it returns false'. Refute it at one input. -/
def backStepsWrong : ChangeSpec := { name := "backSteps", fn := fun _ => fun
  | [d1, d2, d3, d4] => { results := [.lit (.bool false)], args := [d1, d2, d3, d4] }
  | _ => none }
def BackStepsWrongFalsely : Prop := backStepsRow.holds Try.pinned (OpenSpec.ofChange backStepsWrong)

/-- 'mootlaw4.BackTells': WHATEVER THE INPUT: true; the input reads as it did. -/
def backTellsSpec : ChangeSpec := { name := "backTells", fn := fun _ => fun
  | [d1, d2, d3, d4] => { results := [.lit (.bool true)], args := [d1, d2, d3, d4] }
  | _ => none }
def backTellsRow : OpenClaim := { program := "ytbcaaocogphdeaa", sum := "a95c20a741465395818259d17391eb9dd8fe05bd536495d5bdc4d1c94cf97375", func := "moothall/mootlaw4.BackTells", spec := "backTells", unfollowed := true, recurses := true, plainKeys := false, apart := false }
def BackTellsSaid : Prop := backTellsRow.holds Try.pinned (OpenSpec.ofChange backTellsSpec)

/-- ITS FALSE NEIGHBOUR: 'it returns false'. Refute it at one input. -/
def backTellsWrong : ChangeSpec := { name := "backTells", fn := fun _ => fun
  | [d1, d2, d3, d4] => { results := [.lit (.bool false)], args := [d1, d2, d3, d4] }
  | _ => none }
def BackTellsWrongFalsely : Prop := backTellsRow.holds Try.pinned (OpenSpec.ofChange backTellsWrong)

/-- 'mootkeep4.BackTakes': WHATEVER THE INPUT: true; the input reads as it did. -/
def backTakesSpec : ChangeSpec := { name := "backTakes", fn := fun _ => fun
  | [d1, d2, d3] => { results := [.lit (.bool true)], args := [d1, d2, d3] }
  | _ => none }
def backTakesRow : OpenClaim := { program := "ytbcaaocogphdeaa", sum := "a95c20a741465395818259d17391eb9dd8fe05bd536495d5bdc4d1c94cf97375", func := "moothall/mootkeep4.BackTakes", spec := "backTakes", unfollowed := true, recurses := true, plainKeys := false, apart := false }
def BackTakesSaid : Prop := backTakesRow.holds Try.pinned (OpenSpec.ofChange backTakesSpec)

/-- ITS FALSE NEIGHBOUR: 'it returns false'. Refute it at one input. -/
def backTakesWrong : ChangeSpec := { name := "backTakes", fn := fun _ => fun
  | [d1, d2, d3] => { results := [.lit (.bool false)], args := [d1, d2, d3] }
  | _ => none }
def BackTakesWrongFalsely : Prop := backTakesRow.holds Try.pinned (OpenSpec.ofChange backTakesWrong)

/-- 'mootlaw4.BackOffsets': WHATEVER THE INPUT: true; the input reads as it did. -/
def backOffsetsSpec : ChangeSpec := { name := "backOffsets", fn := fun _ => fun
  | [d1, d2, d3] => { results := [.lit (.bool true)], args := [d1, d2, d3] }
  | _ => none }
def backOffsetsRow : OpenClaim := { program := "ytbcaaocogphdeaa", sum := "a95c20a741465395818259d17391eb9dd8fe05bd536495d5bdc4d1c94cf97375", func := "moothall/mootlaw4.BackOffsets", spec := "backOffsets", unfollowed := true, recurses := true, plainKeys := false, apart := false }
def BackOffsetsSaid : Prop := backOffsetsRow.holds Try.pinned (OpenSpec.ofChange backOffsetsSpec)

/-- ITS FALSE NEIGHBOUR: 'it returns false'. Refute it at one input. -/
def backOffsetsWrong : ChangeSpec := { name := "backOffsets", fn := fun _ => fun
  | [d1, d2, d3] => { results := [.lit (.bool false)], args := [d1, d2, d3] }
  | _ => none }
def BackOffsetsWrongFalsely : Prop := backOffsetsRow.holds Try.pinned (OpenSpec.ofChange backOffsetsWrong)

/-- 'mootkeep4.CapFair': WHATEVER THE INPUT: true; the input reads as it did. -/
def capFairSpec : ChangeSpec := { name := "capFair", fn := fun _ => fun
  | [d1, d2] => { results := [.lit (.bool true)], args := [d1, d2] }
  | _ => none }
def capFairRow : OpenClaim := { program := "ytbcaaocogphdeaa", sum := "a95c20a741465395818259d17391eb9dd8fe05bd536495d5bdc4d1c94cf97375", func := "moothall/mootkeep4.CapFair", spec := "capFair", unfollowed := true, recurses := true, named := ["math/bits.divideError", "math/bits.overflowError"], plainKeys := false, apart := false }
def CapFairSaid : Prop := capFairRow.holds Try.pinned (OpenSpec.ofChange capFairSpec)

/-- ITS FALSE NEIGHBOUR: 'it returns false'. Refute it at one input. -/
def capFairWrong : ChangeSpec := { name := "capFair", fn := fun _ => fun
  | [d1, d2] => { results := [.lit (.bool false)], args := [d1, d2] }
  | _ => none }
def CapFairWrongFalsely : Prop := capFairRow.holds Try.pinned (OpenSpec.ofChange capFairWrong)

/-- 'mootkeep4.CapExact': WHATEVER THE INPUT: true; the input reads as it did. -/
def capExactSpec : ChangeSpec := { name := "capExact", fn := fun _ => fun
  | [d1, d2] => { results := [.lit (.bool true)], args := [d1, d2] }
  | _ => none }
def capExactRow : OpenClaim := { program := "ytbcaaocogphdeaa", sum := "a95c20a741465395818259d17391eb9dd8fe05bd536495d5bdc4d1c94cf97375", func := "moothall/mootkeep4.CapExact", spec := "capExact", unfollowed := true, recurses := true, named := ["math/bits.divideError", "math/bits.overflowError"], plainKeys := false, apart := false }
def CapExactSaid : Prop := capExactRow.holds Try.pinned (OpenSpec.ofChange capExactSpec)

/-- ITS FALSE NEIGHBOUR: 'it returns false'. Refute it at one input. -/
def capExactWrong : ChangeSpec := { name := "capExact", fn := fun _ => fun
  | [d1, d2] => { results := [.lit (.bool false)], args := [d1, d2] }
  | _ => none }
def CapExactWrongFalsely : Prop := capExactRow.holds Try.pinned (OpenSpec.ofChange capExactWrong)

/-- 'mootkeep4.CapHouse': WHATEVER THE INPUT: true; the input reads as it did. -/
def capHouseSpec : ChangeSpec := { name := "capHouse", fn := fun _ => fun
  | [d1, d2] => { results := [.lit (.bool true)], args := [d1, d2] }
  | _ => none }
def capHouseRow : OpenClaim := { program := "ytbcaaocogphdeaa", sum := "a95c20a741465395818259d17391eb9dd8fe05bd536495d5bdc4d1c94cf97375", func := "moothall/mootkeep4.CapHouse", spec := "capHouse", unfollowed := true, recurses := true, named := ["math/bits.divideError", "math/bits.overflowError"], plainKeys := false, apart := false }
def CapHouseSaid : Prop := capHouseRow.holds Try.pinned (OpenSpec.ofChange capHouseSpec)

/-- ITS FALSE NEIGHBOUR: 'it returns false'. Refute it at one input. -/
def capHouseWrong : ChangeSpec := { name := "capHouse", fn := fun _ => fun
  | [d1, d2] => { results := [.lit (.bool false)], args := [d1, d2] }
  | _ => none }
def CapHouseWrongFalsely : Prop := capHouseRow.holds Try.pinned (OpenSpec.ofChange capHouseWrong)

/-- 'mootlaw4.CapTells': WHATEVER THE INPUT: true; the input reads as it did. -/
def capTellsSpec : ChangeSpec := { name := "capTells", fn := fun _ => fun
  | [d1, d2, d3] => { results := [.lit (.bool true)], args := [d1, d2, d3] }
  | _ => none }
def capTellsRow : OpenClaim := { program := "ytbcaaocogphdeaa", sum := "a95c20a741465395818259d17391eb9dd8fe05bd536495d5bdc4d1c94cf97375", func := "moothall/mootlaw4.CapTells", spec := "capTells", unfollowed := true, recurses := true, named := ["math/bits.divideError", "math/bits.overflowError"], plainKeys := false, apart := false }
def CapTellsSaid : Prop := capTellsRow.holds Try.pinned (OpenSpec.ofChange capTellsSpec)

/-- ITS FALSE NEIGHBOUR: 'it returns false'. Refute it at one input. -/
def capTellsWrong : ChangeSpec := { name := "capTells", fn := fun _ => fun
  | [d1, d2, d3] => { results := [.lit (.bool false)], args := [d1, d2, d3] }
  | _ => none }
def CapTellsWrongFalsely : Prop := capTellsRow.holds Try.pinned (OpenSpec.ofChange capTellsWrong)

/- THE SECOND FORM. 'bulk': how many values and letters a reading holds, each counted each time it is reached (what is shared counts as often as it is met; a slice's spare places count too). A statement '..UptoSaid' is the law's where the arguments, and the package variables that the reading takes, are together of bulk at most 1048576: NARROWER than '..Said'. Prove '..Said' where nothing that the law and all that it calls make is longer than what came in: it says more and counts as full. Else prove '..UptoSaid'. A law counts once. -/
mutual
def uptoBulk {H : Type} : DataW H → Nat
  | .lit (.string bytes) => bytes.length + 1
  | .lit _ => 1
  | .nil => 1
  | .ptr d => uptoBulk d + 1
  | .slice elems spare => uptoBulkAll elems + uptoBulkAll spare + 1
  | .agg parts => uptoBulkAll parts + 1
  | .iface _ d => uptoBulk d + 1
  | .map entries => uptoBulkEntries entries + 1
  | .held _ => 1
def uptoBulkAll {H : Type} : List (DataW H) → Nat
  | [] => 0
  | d :: r => uptoBulk d + uptoBulkAll r
def uptoBulkEntries {H : Type} : List (Lit × DataW H) → Nat
  | [] => 0
  | x :: r => uptoBulkEntry x + uptoBulkEntries r
def uptoBulkEntry {H : Type} : Lit × DataW H → Nat
  | (.string bytes, d) => bytes.length + uptoBulk d + 1
  | (_, d) => uptoBulk d + 1
 end
def uptoSmall : (H : Type) → List (DataW H) → Bool := fun _ ds => decide (uptoBulkAll ds ≤ 1048576)
def OpenSpec.upto (s : _root_.Go.ChangeSpec) : _root_.Go.OpenSpec := { _root_.Go.OpenSpec.ofChange s with cond := some uptoSmall }

/-- 'mootkeep4.BackOnce', WHERE WHAT IT READS IS OF BULK AT MOST 1048576: true; the input reads as it did. -/
def backOnceUptoRow : OpenClaim := { program := "ytbcaaocogphdeaa", sum := "a95c20a741465395818259d17391eb9dd8fe05bd536495d5bdc4d1c94cf97375", func := "moothall/mootkeep4.BackOnce", spec := "backOnce", unfollowed := true, recurses := true, plainKeys := false, apart := false, narrowed := true }
def BackOnceUptoSaid : Prop := backOnceUptoRow.holds Try.pinned (OpenSpec.upto backOnceSpec)

/-- 'mootlaw4.BackApplies', WHERE WHAT IT READS IS OF BULK AT MOST 1048576: true; the input reads as it did. -/
def backAppliesUptoRow : OpenClaim := { program := "ytbcaaocogphdeaa", sum := "a95c20a741465395818259d17391eb9dd8fe05bd536495d5bdc4d1c94cf97375", func := "moothall/mootlaw4.BackApplies", spec := "backApplies", unfollowed := true, recurses := true, plainKeys := false, apart := false, narrowed := true }
def BackAppliesUptoSaid : Prop := backAppliesUptoRow.holds Try.pinned (OpenSpec.upto backAppliesSpec)

/-- 'mootkeep4.BackSteps', WHERE WHAT IT READS IS OF BULK AT MOST 1048576: true; the input reads as it did. -/
def backStepsUptoRow : OpenClaim := { program := "ytbcaaocogphdeaa", sum := "a95c20a741465395818259d17391eb9dd8fe05bd536495d5bdc4d1c94cf97375", func := "moothall/mootkeep4.BackSteps", spec := "backSteps", unfollowed := true, recurses := true, plainKeys := false, apart := false, narrowed := true }
def BackStepsUptoSaid : Prop := backStepsUptoRow.holds Try.pinned (OpenSpec.upto backStepsSpec)

/-- 'mootlaw4.BackTells', WHERE WHAT IT READS IS OF BULK AT MOST 1048576: true; the input reads as it did. -/
def backTellsUptoRow : OpenClaim := { program := "ytbcaaocogphdeaa", sum := "a95c20a741465395818259d17391eb9dd8fe05bd536495d5bdc4d1c94cf97375", func := "moothall/mootlaw4.BackTells", spec := "backTells", unfollowed := true, recurses := true, plainKeys := false, apart := false, narrowed := true }
def BackTellsUptoSaid : Prop := backTellsUptoRow.holds Try.pinned (OpenSpec.upto backTellsSpec)

/-- 'mootkeep4.BackTakes', WHERE WHAT IT READS IS OF BULK AT MOST 1048576: true; the input reads as it did. -/
def backTakesUptoRow : OpenClaim := { program := "ytbcaaocogphdeaa", sum := "a95c20a741465395818259d17391eb9dd8fe05bd536495d5bdc4d1c94cf97375", func := "moothall/mootkeep4.BackTakes", spec := "backTakes", unfollowed := true, recurses := true, plainKeys := false, apart := false, narrowed := true }
def BackTakesUptoSaid : Prop := backTakesUptoRow.holds Try.pinned (OpenSpec.upto backTakesSpec)

/-- 'mootlaw4.BackOffsets', WHERE WHAT IT READS IS OF BULK AT MOST 1048576: true; the input reads as it did. -/
def backOffsetsUptoRow : OpenClaim := { program := "ytbcaaocogphdeaa", sum := "a95c20a741465395818259d17391eb9dd8fe05bd536495d5bdc4d1c94cf97375", func := "moothall/mootlaw4.BackOffsets", spec := "backOffsets", unfollowed := true, recurses := true, plainKeys := false, apart := false, narrowed := true }
def BackOffsetsUptoSaid : Prop := backOffsetsUptoRow.holds Try.pinned (OpenSpec.upto backOffsetsSpec)

/-- 'mootkeep4.CapFair', WHERE WHAT IT READS IS OF BULK AT MOST 1048576: true; the input reads as it did. -/
def capFairUptoRow : OpenClaim := { program := "ytbcaaocogphdeaa", sum := "a95c20a741465395818259d17391eb9dd8fe05bd536495d5bdc4d1c94cf97375", func := "moothall/mootkeep4.CapFair", spec := "capFair", unfollowed := true, recurses := true, named := ["math/bits.divideError", "math/bits.overflowError"], plainKeys := false, apart := false, narrowed := true }
def CapFairUptoSaid : Prop := capFairUptoRow.holds Try.pinned (OpenSpec.upto capFairSpec)

/-- 'mootkeep4.CapExact', WHERE WHAT IT READS IS OF BULK AT MOST 1048576: true; the input reads as it did. -/
def capExactUptoRow : OpenClaim := { program := "ytbcaaocogphdeaa", sum := "a95c20a741465395818259d17391eb9dd8fe05bd536495d5bdc4d1c94cf97375", func := "moothall/mootkeep4.CapExact", spec := "capExact", unfollowed := true, recurses := true, named := ["math/bits.divideError", "math/bits.overflowError"], plainKeys := false, apart := false, narrowed := true }
def CapExactUptoSaid : Prop := capExactUptoRow.holds Try.pinned (OpenSpec.upto capExactSpec)

/-- 'mootkeep4.CapHouse', WHERE WHAT IT READS IS OF BULK AT MOST 1048576: true; the input reads as it did. -/
def capHouseUptoRow : OpenClaim := { program := "ytbcaaocogphdeaa", sum := "a95c20a741465395818259d17391eb9dd8fe05bd536495d5bdc4d1c94cf97375", func := "moothall/mootkeep4.CapHouse", spec := "capHouse", unfollowed := true, recurses := true, named := ["math/bits.divideError", "math/bits.overflowError"], plainKeys := false, apart := false, narrowed := true }
def CapHouseUptoSaid : Prop := capHouseUptoRow.holds Try.pinned (OpenSpec.upto capHouseSpec)

/-- 'mootlaw4.CapTells', WHERE WHAT IT READS IS OF BULK AT MOST 1048576: true; the input reads as it did. -/
def capTellsUptoRow : OpenClaim := { program := "ytbcaaocogphdeaa", sum := "a95c20a741465395818259d17391eb9dd8fe05bd536495d5bdc4d1c94cf97375", func := "moothall/mootlaw4.CapTells", spec := "capTells", unfollowed := true, recurses := true, named := ["math/bits.divideError", "math/bits.overflowError"], plainKeys := false, apart := false, narrowed := true }
def CapTellsUptoSaid : Prop := capTellsUptoRow.holds Try.pinned (OpenSpec.upto capTellsSpec)

end Rows
end Go.Proofs.Ytbcaaocogphdeaa
