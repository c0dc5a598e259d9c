/-
  No cell of these rows narrows 'for every input' (looked for: loops, veiled, ifaces, maps, wideKeys, modest, calm, conditions, laid).
  DERIVED. THE GIVEN ROWS OF THIS SEAT. 10 by the template 'for every input the law returns true; each argument reads behind the call as it read before'; 0 by the template 'total and deterministic' (their statements: YtghnbiknghelpaaTotals.lean).
  GIVEN WITH THE SEED: the statements are not yours to turn. If you find one false, say at which input.
  Laid BY PROGRAM, IN A SANDBOX (cutbox-rows.mjs): the forced cells as the released guide's own fill.sh prints them over the translation 9803f4456fc163af… (all of the seat's roots in one cut). By AI agents, Wed Nov 11 2026. No macro, syntax, notation, axiom, sorry.
-/
import Derived.Test.YtghnbiknghelpaaChecked
import GoSem.Claim
import GoSem.ClaimJoined
import GoSem.ClaimMapViews
import Derived.JoinedTies
import Derived.KernelRfl
namespace Go.Proofs.Ytghnbiknghelpaa
/- THE CELL 'sum', in the pinned program and in every row, IS THE sha256 OF THE DUMP (.gsa) THAT YtghnbiknghelpaaProg.lean LOADS. Nothing in Lean hashes anything: it is a label: what it is worth is what the hold of that sum in a sandbox is worth. -/
noncomputable def Try.pinned : Pinned := { name := "ytghnbiknghelpaa", sum := "9803f4456fc163af714d3493edb82b7efa38152aab966c20004e87851e6fa515", checked := Try.checked }
namespace Rows
def none {H : Type} : Left H := { results := [], args := [] }

/-- 'mootkeep4.BurdenMore': WHATEVER THE INPUT: true; the input reads as it did. -/
def burdenMoreSpec : ChangeSpec := { name := "burdenMore", fn := fun _ => fun
  | [d1, d2] => { results := [.lit (.bool true)], args := [d1, d2] }
  | _ => none }
def burdenMoreRow : OpenClaim := { program := "ytghnbiknghelpaa", sum := "9803f4456fc163af714d3493edb82b7efa38152aab966c20004e87851e6fa515", func := "moothall/mootkeep4.BurdenMore", spec := "burdenMore", plainKeys := false, apart := false }
def BurdenMoreSaid : Prop := burdenMoreRow.holds Try.pinned (OpenSpec.ofChange burdenMoreSpec)

/-- ITS FALSE NEIGHBOUR: 'it returns false'. Refute it at one input. -/
def burdenMoreWrong : ChangeSpec := { name := "burdenMore", fn := fun _ => fun
  | [d1, d2] => { results := [.lit (.bool false)], args := [d1, d2] }
  | _ => none }
def BurdenMoreWrongFalsely : Prop := burdenMoreRow.holds Try.pinned (OpenSpec.ofChange burdenMoreWrong)

/-- 'mootkeep4.BurdenRebuts': WHATEVER THE INPUT: true; the input reads as it did. -/
def burdenRebutsSpec : ChangeSpec := { name := "burdenRebuts", fn := fun _ => fun
  | [d] => { results := [.lit (.bool true)], args := [d] }
  | _ => none }
def burdenRebutsRow : OpenClaim := { program := "ytghnbiknghelpaa", sum := "9803f4456fc163af714d3493edb82b7efa38152aab966c20004e87851e6fa515", func := "moothall/mootkeep4.BurdenRebuts", spec := "burdenRebuts", plainKeys := false, apart := false }
def BurdenRebutsSaid : Prop := burdenRebutsRow.holds Try.pinned (OpenSpec.ofChange burdenRebutsSpec)

/-- ITS FALSE NEIGHBOUR: 'it returns false'. Refute it at one input. -/
def burdenRebutsWrong : ChangeSpec := { name := "burdenRebuts", fn := fun _ => fun
  | [d] => { results := [.lit (.bool false)], args := [d] }
  | _ => none }
def BurdenRebutsWrongFalsely : Prop := burdenRebutsRow.holds Try.pinned (OpenSpec.ofChange burdenRebutsWrong)

/-- 'mootkeep4.BurdenTurns': WHATEVER THE INPUT: true; the input reads as it did. -/
def burdenTurnsSpec : ChangeSpec := { name := "burdenTurns", fn := fun _ => fun
  | [d] => { results := [.lit (.bool true)], args := [d] }
  | _ => none }
def burdenTurnsRow : OpenClaim := { program := "ytghnbiknghelpaa", sum := "9803f4456fc163af714d3493edb82b7efa38152aab966c20004e87851e6fa515", func := "moothall/mootkeep4.BurdenTurns", spec := "burdenTurns", plainKeys := false, apart := false }
def BurdenTurnsSaid : Prop := burdenTurnsRow.holds Try.pinned (OpenSpec.ofChange burdenTurnsSpec)

/-- ITS FALSE NEIGHBOUR: 'it returns false'. Refute it at one input. -/
def burdenTurnsWrong : ChangeSpec := { name := "burdenTurns", fn := fun _ => fun
  | [d] => { results := [.lit (.bool false)], args := [d] }
  | _ => none }
def BurdenTurnsWrongFalsely : Prop := burdenTurnsRow.holds Try.pinned (OpenSpec.ofChange burdenTurnsWrong)

/-- 'mootlaw4.BurdenTells': WHATEVER THE INPUT: true; the input reads as it did. -/
def burdenTellsSpec : ChangeSpec := { name := "burdenTells", fn := fun _ => fun
  | [d1, d2, d3] => { results := [.lit (.bool true)], args := [d1, d2, d3] }
  | _ => none }
def burdenTellsRow : OpenClaim := { program := "ytghnbiknghelpaa", sum := "9803f4456fc163af714d3493edb82b7efa38152aab966c20004e87851e6fa515", func := "moothall/mootlaw4.BurdenTells", spec := "burdenTells", unfollowed := true, recurses := true, plainKeys := false, apart := false }
def BurdenTellsSaid : Prop := burdenTellsRow.holds Try.pinned (OpenSpec.ofChange burdenTellsSpec)

/-- ITS FALSE NEIGHBOUR: 'it returns false'. Refute it at one input. -/
def burdenTellsWrong : ChangeSpec := { name := "burdenTells", fn := fun _ => fun
  | [d1, d2, d3] => { results := [.lit (.bool false)], args := [d1, d2, d3] }
  | _ => none }
def BurdenTellsWrongFalsely : Prop := burdenTellsRow.holds Try.pinned (OpenSpec.ofChange burdenTellsWrong)

/-- 'mootkeep4.BurdenLeast': WHATEVER THE INPUT: true; the input reads as it did. -/
def burdenLeastSpec : ChangeSpec := { name := "burdenLeast", fn := fun _ => fun
  | [d] => { results := [.lit (.bool true)], args := [d] }
  | _ => none }
def burdenLeastRow : OpenClaim := { program := "ytghnbiknghelpaa", sum := "9803f4456fc163af714d3493edb82b7efa38152aab966c20004e87851e6fa515", func := "moothall/mootkeep4.BurdenLeast", spec := "burdenLeast", plainKeys := false, apart := false }
def BurdenLeastSaid : Prop := burdenLeastRow.holds Try.pinned (OpenSpec.ofChange burdenLeastSpec)

/-- ITS FALSE NEIGHBOUR: 'it returns false'. Refute it at one input. -/
def burdenLeastWrong : ChangeSpec := { name := "burdenLeast", fn := fun _ => fun
  | [d] => { results := [.lit (.bool false)], args := [d] }
  | _ => none }
def BurdenLeastWrongFalsely : Prop := burdenLeastRow.holds Try.pinned (OpenSpec.ofChange burdenLeastWrong)

/-- 'mootlaw4.BurdenEnough': WHATEVER THE INPUT: true; the input reads as it did. -/
def burdenEnoughSpec : ChangeSpec := { name := "burdenEnough", fn := fun _ => fun
  | [d1, d2] => { results := [.lit (.bool true)], args := [d1, d2] }
  | _ => none }
def burdenEnoughRow : OpenClaim := { program := "ytghnbiknghelpaa", sum := "9803f4456fc163af714d3493edb82b7efa38152aab966c20004e87851e6fa515", func := "moothall/mootlaw4.BurdenEnough", spec := "burdenEnough", plainKeys := false, apart := false }
def BurdenEnoughSaid : Prop := burdenEnoughRow.holds Try.pinned (OpenSpec.ofChange burdenEnoughSpec)

/-- ITS FALSE NEIGHBOUR: 'it returns false'. Refute it at one input. -/
def burdenEnoughWrong : ChangeSpec := { name := "burdenEnough", fn := fun _ => fun
  | [d1, d2] => { results := [.lit (.bool false)], args := [d1, d2] }
  | _ => none }
def BurdenEnoughWrongFalsely : Prop := burdenEnoughRow.holds Try.pinned (OpenSpec.ofChange burdenEnoughWrong)

/-- 'mootkeep4.StepParts': WHATEVER THE INPUT: true; the input reads as it did. -/
def stepPartsSpec : ChangeSpec := { name := "stepParts", fn := fun _ => fun
  | [d1, d2] => { results := [.lit (.bool true)], args := [d1, d2] }
  | _ => none }
def stepPartsRow : OpenClaim := { program := "ytghnbiknghelpaa", sum := "9803f4456fc163af714d3493edb82b7efa38152aab966c20004e87851e6fa515", func := "moothall/mootkeep4.StepParts", spec := "stepParts", plainKeys := false, apart := false }
def StepPartsSaid : Prop := stepPartsRow.holds Try.pinned (OpenSpec.ofChange stepPartsSpec)

/-- ITS FALSE NEIGHBOUR: 'it returns false'. Refute it at one input. -/
def stepPartsWrong : ChangeSpec := { name := "stepParts", fn := fun _ => fun
  | [d1, d2] => { results := [.lit (.bool false)], args := [d1, d2] }
  | _ => none }
def StepPartsWrongFalsely : Prop := stepPartsRow.holds Try.pinned (OpenSpec.ofChange stepPartsWrong)

/-- 'mootkeep4.StepFinal': WHATEVER THE INPUT: true; the input reads as it did. -/
def stepFinalSpec : ChangeSpec := { name := "stepFinal", fn := fun _ => fun
  | [d1, d2] => { results := [.lit (.bool true)], args := [d1, d2] }
  | _ => none }
def stepFinalRow : OpenClaim := { program := "ytghnbiknghelpaa", sum := "9803f4456fc163af714d3493edb82b7efa38152aab966c20004e87851e6fa515", func := "moothall/mootkeep4.StepFinal", spec := "stepFinal", plainKeys := false, apart := false }
def StepFinalSaid : Prop := stepFinalRow.holds Try.pinned (OpenSpec.ofChange stepFinalSpec)

/-- ITS FALSE NEIGHBOUR: 'it returns false'. Refute it at one input. -/
def stepFinalWrong : ChangeSpec := { name := "stepFinal", fn := fun _ => fun
  | [d1, d2] => { results := [.lit (.bool false)], args := [d1, d2] }
  | _ => none }
def StepFinalWrongFalsely : Prop := stepFinalRow.holds Try.pinned (OpenSpec.ofChange stepFinalWrong)

/-- 'mootkeep4.StepCan': WHATEVER THE INPUT: true; the input reads as it did. -/
def stepCanSpec : ChangeSpec := { name := "stepCan", fn := fun _ => fun
  | [d1, d2, d3] => { results := [.lit (.bool true)], args := [d1, d2, d3] }
  | _ => none }
def stepCanRow : OpenClaim := { program := "ytghnbiknghelpaa", sum := "9803f4456fc163af714d3493edb82b7efa38152aab966c20004e87851e6fa515", func := "moothall/mootkeep4.StepCan", spec := "stepCan", plainKeys := false, apart := false }
def StepCanSaid : Prop := stepCanRow.holds Try.pinned (OpenSpec.ofChange stepCanSpec)

/-- ITS FALSE NEIGHBOUR: 'it returns false'. Refute it at one input. -/
def stepCanWrong : ChangeSpec := { name := "stepCan", fn := fun _ => fun
  | [d1, d2, d3] => { results := [.lit (.bool false)], args := [d1, d2, d3] }
  | _ => none }
def StepCanWrongFalsely : Prop := stepCanRow.holds Try.pinned (OpenSpec.ofChange stepCanWrong)

/-- 'mootlaw4.StepTells': WHATEVER THE INPUT: true; the input reads as it did. -/
def stepTellsSpec : ChangeSpec := { name := "stepTells", fn := fun _ => fun
  | [d1, d2, d3] => { results := [.lit (.bool true)], args := [d1, d2, d3] }
  | _ => none }
def stepTellsRow : OpenClaim := { program := "ytghnbiknghelpaa", sum := "9803f4456fc163af714d3493edb82b7efa38152aab966c20004e87851e6fa515", func := "moothall/mootlaw4.StepTells", spec := "stepTells", plainKeys := false, apart := false }
def StepTellsSaid : Prop := stepTellsRow.holds Try.pinned (OpenSpec.ofChange stepTellsSpec)

/-- ITS FALSE NEIGHBOUR: 'it returns false'. Refute it at one input. -/
def stepTellsWrong : ChangeSpec := { name := "stepTells", fn := fun _ => fun
  | [d1, d2, d3] => { results := [.lit (.bool false)], args := [d1, d2, d3] }
  | _ => none }
def StepTellsWrongFalsely : Prop := stepTellsRow.holds Try.pinned (OpenSpec.ofChange stepTellsWrong)

/- THE SECOND FORM. 'bulk': how many values and letters a reading holds, each counted each time it is reached (what is shared counts as often as it is met; a slice's spare places count too). A statement '..UptoSaid' is the law's where the arguments, and the package variables that the reading takes, are together of bulk at most 1048576: NARROWER than '..Said'. Prove '..Said' where nothing that the law and all that it calls make is longer than what came in: it says more and counts as full. Else prove '..UptoSaid'. A law counts once. -/
mutual
def uptoBulk {H : Type} : DataW H → Nat
  | .lit (.string bytes) => bytes.length + 1
  | .lit _ => 1
  | .nil => 1
  | .ptr d => uptoBulk d + 1
  | .slice elems spare => uptoBulkAll elems + uptoBulkAll spare + 1
  | .agg parts => uptoBulkAll parts + 1
  | .iface _ d => uptoBulk d + 1
  | .map entries => uptoBulkEntries entries + 1
  | .held _ => 1
def uptoBulkAll {H : Type} : List (DataW H) → Nat
  | [] => 0
  | d :: r => uptoBulk d + uptoBulkAll r
def uptoBulkEntries {H : Type} : List (Lit × DataW H) → Nat
  | [] => 0
  | x :: r => uptoBulkEntry x + uptoBulkEntries r
def uptoBulkEntry {H : Type} : Lit × DataW H → Nat
  | (.string bytes, d) => bytes.length + uptoBulk d + 1
  | (_, d) => uptoBulk d + 1
 end
def uptoSmall : (H : Type) → List (DataW H) → Bool := fun _ ds => decide (uptoBulkAll ds ≤ 1048576)
def OpenSpec.upto (s : _root_.Go.ChangeSpec) : _root_.Go.OpenSpec := { _root_.Go.OpenSpec.ofChange s with cond := some uptoSmall }

/-- 'mootkeep4.BurdenMore', WHERE WHAT IT READS IS OF BULK AT MOST 1048576: true; the input reads as it did. -/
def burdenMoreUptoRow : OpenClaim := { program := "ytghnbiknghelpaa", sum := "9803f4456fc163af714d3493edb82b7efa38152aab966c20004e87851e6fa515", func := "moothall/mootkeep4.BurdenMore", spec := "burdenMore", plainKeys := false, apart := false, narrowed := true }
def BurdenMoreUptoSaid : Prop := burdenMoreUptoRow.holds Try.pinned (OpenSpec.upto burdenMoreSpec)

/-- 'mootkeep4.BurdenRebuts', WHERE WHAT IT READS IS OF BULK AT MOST 1048576: true; the input reads as it did. -/
def burdenRebutsUptoRow : OpenClaim := { program := "ytghnbiknghelpaa", sum := "9803f4456fc163af714d3493edb82b7efa38152aab966c20004e87851e6fa515", func := "moothall/mootkeep4.BurdenRebuts", spec := "burdenRebuts", plainKeys := false, apart := false, narrowed := true }
def BurdenRebutsUptoSaid : Prop := burdenRebutsUptoRow.holds Try.pinned (OpenSpec.upto burdenRebutsSpec)

/-- 'mootkeep4.BurdenTurns', WHERE WHAT IT READS IS OF BULK AT MOST 1048576: true; the input reads as it did. -/
def burdenTurnsUptoRow : OpenClaim := { program := "ytghnbiknghelpaa", sum := "9803f4456fc163af714d3493edb82b7efa38152aab966c20004e87851e6fa515", func := "moothall/mootkeep4.BurdenTurns", spec := "burdenTurns", plainKeys := false, apart := false, narrowed := true }
def BurdenTurnsUptoSaid : Prop := burdenTurnsUptoRow.holds Try.pinned (OpenSpec.upto burdenTurnsSpec)

/-- 'mootlaw4.BurdenTells', WHERE WHAT IT READS IS OF BULK AT MOST 1048576: true; the input reads as it did. -/
def burdenTellsUptoRow : OpenClaim := { program := "ytghnbiknghelpaa", sum := "9803f4456fc163af714d3493edb82b7efa38152aab966c20004e87851e6fa515", func := "moothall/mootlaw4.BurdenTells", spec := "burdenTells", unfollowed := true, recurses := true, plainKeys := false, apart := false, narrowed := true }
def BurdenTellsUptoSaid : Prop := burdenTellsUptoRow.holds Try.pinned (OpenSpec.upto burdenTellsSpec)

/-- 'mootkeep4.BurdenLeast', WHERE WHAT IT READS IS OF BULK AT MOST 1048576: true; the input reads as it did. -/
def burdenLeastUptoRow : OpenClaim := { program := "ytghnbiknghelpaa", sum := "9803f4456fc163af714d3493edb82b7efa38152aab966c20004e87851e6fa515", func := "moothall/mootkeep4.BurdenLeast", spec := "burdenLeast", plainKeys := false, apart := false, narrowed := true }
def BurdenLeastUptoSaid : Prop := burdenLeastUptoRow.holds Try.pinned (OpenSpec.upto burdenLeastSpec)

/-- 'mootlaw4.BurdenEnough', WHERE WHAT IT READS IS OF BULK AT MOST 1048576: true; the input reads as it did. -/
def burdenEnoughUptoRow : OpenClaim := { program := "ytghnbiknghelpaa", sum := "9803f4456fc163af714d3493edb82b7efa38152aab966c20004e87851e6fa515", func := "moothall/mootlaw4.BurdenEnough", spec := "burdenEnough", plainKeys := false, apart := false, narrowed := true }
def BurdenEnoughUptoSaid : Prop := burdenEnoughUptoRow.holds Try.pinned (OpenSpec.upto burdenEnoughSpec)

/-- 'mootkeep4.StepParts', WHERE WHAT IT READS IS OF BULK AT MOST 1048576: true; the input reads as it did. -/
def stepPartsUptoRow : OpenClaim := { program := "ytghnbiknghelpaa", sum := "9803f4456fc163af714d3493edb82b7efa38152aab966c20004e87851e6fa515", func := "moothall/mootkeep4.StepParts", spec := "stepParts", plainKeys := false, apart := false, narrowed := true }
def StepPartsUptoSaid : Prop := stepPartsUptoRow.holds Try.pinned (OpenSpec.upto stepPartsSpec)

/-- 'mootkeep4.StepFinal', WHERE WHAT IT READS IS OF BULK AT MOST 1048576: true; the input reads as it did. -/
def stepFinalUptoRow : OpenClaim := { program := "ytghnbiknghelpaa", sum := "9803f4456fc163af714d3493edb82b7efa38152aab966c20004e87851e6fa515", func := "moothall/mootkeep4.StepFinal", spec := "stepFinal", plainKeys := false, apart := false, narrowed := true }
def StepFinalUptoSaid : Prop := stepFinalUptoRow.holds Try.pinned (OpenSpec.upto stepFinalSpec)

/-- 'mootkeep4.StepCan', WHERE WHAT IT READS IS OF BULK AT MOST 1048576: true; the input reads as it did. -/
def stepCanUptoRow : OpenClaim := { program := "ytghnbiknghelpaa", sum := "9803f4456fc163af714d3493edb82b7efa38152aab966c20004e87851e6fa515", func := "moothall/mootkeep4.StepCan", spec := "stepCan", plainKeys := false, apart := false, narrowed := true }
def StepCanUptoSaid : Prop := stepCanUptoRow.holds Try.pinned (OpenSpec.upto stepCanSpec)

/-- 'mootlaw4.StepTells', WHERE WHAT IT READS IS OF BULK AT MOST 1048576: true; the input reads as it did. -/
def stepTellsUptoRow : OpenClaim := { program := "ytghnbiknghelpaa", sum := "9803f4456fc163af714d3493edb82b7efa38152aab966c20004e87851e6fa515", func := "moothall/mootlaw4.StepTells", spec := "stepTells", plainKeys := false, apart := false, narrowed := true }
def StepTellsUptoSaid : Prop := stepTellsUptoRow.holds Try.pinned (OpenSpec.upto stepTellsSpec)

end Rows
end Go.Proofs.Ytghnbiknghelpaa
