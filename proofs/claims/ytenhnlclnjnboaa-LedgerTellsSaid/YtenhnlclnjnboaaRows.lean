/-
  No cell of these rows narrows 'for every input' (looked for: loops, veiled, ifaces, maps, wideKeys, modest, calm, conditions, laid).
  DERIVED. THE GIVEN ROWS OF THIS SEAT. 7 by the template 'for every input the law returns true; each argument reads behind the call as it read before'; 0 by the template 'total and deterministic' (their statements: YtenhnlclnjnboaaTotals.lean).
  GIVEN WITH THE SEED: the statements are not yours to turn. If you find one false, say at which input.
  Laid BY PROGRAM, IN A SANDBOX (cutbox-rows.mjs): the forced cells as the released guide's own fill.sh prints them over the translation 29503503e6de2320… (all of the seat's roots in one cut). By AI agents, Wed Nov 11 2026. No macro, syntax, notation, axiom, sorry.
-/
import Derived.Test.YtenhnlclnjnboaaChecked
import GoSem.Claim
import GoSem.ClaimJoined
import GoSem.ClaimMapViews
import Derived.JoinedTies
import Derived.KernelRfl
namespace Go.Proofs.Ytenhnlclnjnboaa
/- THE CELL 'sum', in the pinned program and in every row, IS THE sha256 OF THE DUMP (.gsa) THAT YtenhnlclnjnboaaProg.lean LOADS. Nothing in Lean hashes anything: it is a label: what it is worth is what the hold of that sum in a sandbox is worth. -/
noncomputable def Try.pinned : Pinned := { name := "ytenhnlclnjnboaa", sum := "29503503e6de23204c74b10ff87e0de9242adf356ece5a2d0d43a438a63559e8", checked := Try.checked }
namespace Rows
def none {H : Type} : Left H := { results := [], args := [] }

/-- 'mootkeep4.LedgerZero': WHATEVER THE INPUT: true; the input reads as it did. -/
def ledgerZeroSpec : ChangeSpec := { name := "ledgerZero", fn := fun _ => fun
  | [d1, d2] => { results := [.lit (.bool true)], args := [d1, d2] }
  | _ => none }
def ledgerZeroRow : OpenClaim := { program := "ytenhnlclnjnboaa", sum := "29503503e6de23204c74b10ff87e0de9242adf356ece5a2d0d43a438a63559e8", func := "moothall/mootkeep4.LedgerZero", spec := "ledgerZero", plainKeys := false, apart := false }
def LedgerZeroSaid : Prop := ledgerZeroRow.holds Try.pinned (OpenSpec.ofChange ledgerZeroSpec)

/-- ITS FALSE NEIGHBOUR: 'it returns false'. Refute it at one input. -/
def ledgerZeroWrong : ChangeSpec := { name := "ledgerZero", fn := fun _ => fun
  | [d1, d2] => { results := [.lit (.bool false)], args := [d1, d2] }
  | _ => none }
def LedgerZeroWrongFalsely : Prop := ledgerZeroRow.holds Try.pinned (OpenSpec.ofChange ledgerZeroWrong)

/-- 'mootkeep4.LedgerUndone': WHATEVER THE INPUT: true; the input reads as it did. -/
def ledgerUndoneSpec : ChangeSpec := { name := "ledgerUndone", fn := fun _ => fun
  | [d1, d2] => { results := [.lit (.bool true)], args := [d1, d2] }
  | _ => none }
def ledgerUndoneRow : OpenClaim := { program := "ytenhnlclnjnboaa", sum := "29503503e6de23204c74b10ff87e0de9242adf356ece5a2d0d43a438a63559e8", func := "moothall/mootkeep4.LedgerUndone", spec := "ledgerUndone", plainKeys := false, apart := false }
def LedgerUndoneSaid : Prop := ledgerUndoneRow.holds Try.pinned (OpenSpec.ofChange ledgerUndoneSpec)

/-- ITS FALSE NEIGHBOUR: 'it returns false'. Refute it at one input. -/
def ledgerUndoneWrong : ChangeSpec := { name := "ledgerUndone", fn := fun _ => fun
  | [d1, d2] => { results := [.lit (.bool false)], args := [d1, d2] }
  | _ => none }
def LedgerUndoneWrongFalsely : Prop := ledgerUndoneRow.holds Try.pinned (OpenSpec.ofChange ledgerUndoneWrong)

/-- 'mootlaw4.LedgerCloses': WHATEVER THE INPUT: true; the input reads as it did. -/
def ledgerClosesSpec : ChangeSpec := { name := "ledgerCloses", fn := fun _ => fun
  | [d1, d2, d3] => { results := [.lit (.bool true)], args := [d1, d2, d3] }
  | _ => none }
def ledgerClosesRow : OpenClaim := { program := "ytenhnlclnjnboaa", sum := "29503503e6de23204c74b10ff87e0de9242adf356ece5a2d0d43a438a63559e8", func := "moothall/mootlaw4.LedgerCloses", spec := "ledgerCloses", unfollowed := true, recurses := true, plainKeys := false, apart := false }
def LedgerClosesSaid : Prop := ledgerClosesRow.holds Try.pinned (OpenSpec.ofChange ledgerClosesSpec)

/-- ITS FALSE NEIGHBOUR: 'it returns false'. Refute it at one input. -/
def ledgerClosesWrong : ChangeSpec := { name := "ledgerCloses", fn := fun _ => fun
  | [d1, d2, d3] => { results := [.lit (.bool false)], args := [d1, d2, d3] }
  | _ => none }
def LedgerClosesWrongFalsely : Prop := ledgerClosesRow.holds Try.pinned (OpenSpec.ofChange ledgerClosesWrong)

/-- 'mootkeep4.LedgerClosed': WHATEVER THE INPUT: true; the input reads as it did. -/
def ledgerClosedSpec : ChangeSpec := { name := "ledgerClosed", fn := fun _ => fun
  | [d1, d2, d3] => { results := [.lit (.bool true)], args := [d1, d2, d3] }
  | _ => none }
def ledgerClosedRow : OpenClaim := { program := "ytenhnlclnjnboaa", sum := "29503503e6de23204c74b10ff87e0de9242adf356ece5a2d0d43a438a63559e8", func := "moothall/mootkeep4.LedgerClosed", spec := "ledgerClosed", plainKeys := false, apart := false }
def LedgerClosedSaid : Prop := ledgerClosedRow.holds Try.pinned (OpenSpec.ofChange ledgerClosedSpec)

/-- ITS FALSE NEIGHBOUR: 'it returns false'. Refute it at one input. -/
def ledgerClosedWrong : ChangeSpec := { name := "ledgerClosed", fn := fun _ => fun
  | [d1, d2, d3] => { results := [.lit (.bool false)], args := [d1, d2, d3] }
  | _ => none }
def LedgerClosedWrongFalsely : Prop := ledgerClosedRow.holds Try.pinned (OpenSpec.ofChange ledgerClosedWrong)

/-- 'mootlaw4.LedgerPays': WHATEVER THE INPUT: true; the input reads as it did. -/
def ledgerPaysSpec : ChangeSpec := { name := "ledgerPays", fn := fun _ => fun
  | [d1, d2] => { results := [.lit (.bool true)], args := [d1, d2] }
  | _ => none }
def ledgerPaysRow : OpenClaim := { program := "ytenhnlclnjnboaa", sum := "29503503e6de23204c74b10ff87e0de9242adf356ece5a2d0d43a438a63559e8", func := "moothall/mootlaw4.LedgerPays", spec := "ledgerPays", inPlace := ["slices.overlaps[moothall/ledger.Entry]"], unfollowed := true, recurses := true, plainKeys := false, apart := false }
def LedgerPaysSaid : Prop := ledgerPaysRow.holds Try.pinned (OpenSpec.ofChange ledgerPaysSpec)

/-- ITS FALSE NEIGHBOUR: 'it returns false'. Refute it at one input. -/
def ledgerPaysWrong : ChangeSpec := { name := "ledgerPays", fn := fun _ => fun
  | [d1, d2] => { results := [.lit (.bool false)], args := [d1, d2] }
  | _ => none }
def LedgerPaysWrongFalsely : Prop := ledgerPaysRow.holds Try.pinned (OpenSpec.ofChange ledgerPaysWrong)

/-- 'mootlaw4.LedgerTells': WHATEVER THE INPUT: true; the input reads as it did. -/
def ledgerTellsSpec : ChangeSpec := { name := "ledgerTells", fn := fun _ => fun
  | [d1, d2, d3, d4, d5, d6] => { results := [.lit (.bool true)], args := [d1, d2, d3, d4, d5, d6] }
  | _ => none }
def ledgerTellsRow : OpenClaim := { program := "ytenhnlclnjnboaa", sum := "29503503e6de23204c74b10ff87e0de9242adf356ece5a2d0d43a438a63559e8", func := "moothall/mootlaw4.LedgerTells", spec := "ledgerTells", unfollowed := true, recurses := true, plainKeys := false, apart := false }
def LedgerTellsSaid : Prop := ledgerTellsRow.holds Try.pinned (OpenSpec.ofChange ledgerTellsSpec)

/-- ITS FALSE NEIGHBOUR: 'it returns false'. Refute it at one input. -/
def ledgerTellsWrong : ChangeSpec := { name := "ledgerTells", fn := fun _ => fun
  | [d1, d2, d3, d4, d5, d6] => { results := [.lit (.bool false)], args := [d1, d2, d3, d4, d5, d6] }
  | _ => none }
def LedgerTellsWrongFalsely : Prop := ledgerTellsRow.holds Try.pinned (OpenSpec.ofChange ledgerTellsWrong)

/-- 'mootkeep4.LedgerPaid': WHATEVER THE INPUT: true; the input reads as it did. -/
def ledgerPaidSpec : ChangeSpec := { name := "ledgerPaid", fn := fun _ => fun
  | [d1, d2, d3] => { results := [.lit (.bool true)], args := [d1, d2, d3] }
  | _ => none }
def ledgerPaidRow : OpenClaim := { program := "ytenhnlclnjnboaa", sum := "29503503e6de23204c74b10ff87e0de9242adf356ece5a2d0d43a438a63559e8", func := "moothall/mootkeep4.LedgerPaid", spec := "ledgerPaid", unfollowed := true, recurses := true, plainKeys := false, apart := false }
def LedgerPaidSaid : Prop := ledgerPaidRow.holds Try.pinned (OpenSpec.ofChange ledgerPaidSpec)

/-- ITS FALSE NEIGHBOUR: 'it returns false'. Refute it at one input. -/
def ledgerPaidWrong : ChangeSpec := { name := "ledgerPaid", fn := fun _ => fun
  | [d1, d2, d3] => { results := [.lit (.bool false)], args := [d1, d2, d3] }
  | _ => none }
def LedgerPaidWrongFalsely : Prop := ledgerPaidRow.holds Try.pinned (OpenSpec.ofChange ledgerPaidWrong)

/- THE SECOND FORM. 'bulk': how many values and letters a reading holds, each counted each time it is reached (what is shared counts as often as it is met; a slice's spare places count too). A statement '..UptoSaid' is the law's where the arguments, and the package variables that the reading takes, are together of bulk at most 1048576: NARROWER than '..Said'. Prove '..Said' where nothing that the law and all that it calls make is longer than what came in: it says more and counts as full. Else prove '..UptoSaid'. A law counts once. -/
mutual
def uptoBulk {H : Type} : DataW H → Nat
  | .lit (.string bytes) => bytes.length + 1
  | .lit _ => 1
  | .nil => 1
  | .ptr d => uptoBulk d + 1
  | .slice elems spare => uptoBulkAll elems + uptoBulkAll spare + 1
  | .agg parts => uptoBulkAll parts + 1
  | .iface _ d => uptoBulk d + 1
  | .map entries => uptoBulkEntries entries + 1
  | .held _ => 1
def uptoBulkAll {H : Type} : List (DataW H) → Nat
  | [] => 0
  | d :: r => uptoBulk d + uptoBulkAll r
def uptoBulkEntries {H : Type} : List (Lit × DataW H) → Nat
  | [] => 0
  | x :: r => uptoBulkEntry x + uptoBulkEntries r
def uptoBulkEntry {H : Type} : Lit × DataW H → Nat
  | (.string bytes, d) => bytes.length + uptoBulk d + 1
  | (_, d) => uptoBulk d + 1
 end
def uptoSmall : (H : Type) → List (DataW H) → Bool := fun _ ds => decide (uptoBulkAll ds ≤ 1048576)
def OpenSpec.upto (s : _root_.Go.ChangeSpec) : _root_.Go.OpenSpec := { _root_.Go.OpenSpec.ofChange s with cond := some uptoSmall }

/-- 'mootkeep4.LedgerZero', WHERE WHAT IT READS IS OF BULK AT MOST 1048576: true; the input reads as it did. -/
def ledgerZeroUptoRow : OpenClaim := { program := "ytenhnlclnjnboaa", sum := "29503503e6de23204c74b10ff87e0de9242adf356ece5a2d0d43a438a63559e8", func := "moothall/mootkeep4.LedgerZero", spec := "ledgerZero", plainKeys := false, apart := false, narrowed := true }
def LedgerZeroUptoSaid : Prop := ledgerZeroUptoRow.holds Try.pinned (OpenSpec.upto ledgerZeroSpec)

/-- 'mootkeep4.LedgerUndone', WHERE WHAT IT READS IS OF BULK AT MOST 1048576: true; the input reads as it did. -/
def ledgerUndoneUptoRow : OpenClaim := { program := "ytenhnlclnjnboaa", sum := "29503503e6de23204c74b10ff87e0de9242adf356ece5a2d0d43a438a63559e8", func := "moothall/mootkeep4.LedgerUndone", spec := "ledgerUndone", plainKeys := false, apart := false, narrowed := true }
def LedgerUndoneUptoSaid : Prop := ledgerUndoneUptoRow.holds Try.pinned (OpenSpec.upto ledgerUndoneSpec)

/-- 'mootlaw4.LedgerCloses', WHERE WHAT IT READS IS OF BULK AT MOST 1048576: true; the input reads as it did. -/
def ledgerClosesUptoRow : OpenClaim := { program := "ytenhnlclnjnboaa", sum := "29503503e6de23204c74b10ff87e0de9242adf356ece5a2d0d43a438a63559e8", func := "moothall/mootlaw4.LedgerCloses", spec := "ledgerCloses", unfollowed := true, recurses := true, plainKeys := false, apart := false, narrowed := true }
def LedgerClosesUptoSaid : Prop := ledgerClosesUptoRow.holds Try.pinned (OpenSpec.upto ledgerClosesSpec)

/-- 'mootkeep4.LedgerClosed', WHERE WHAT IT READS IS OF BULK AT MOST 1048576: true; the input reads as it did. -/
def ledgerClosedUptoRow : OpenClaim := { program := "ytenhnlclnjnboaa", sum := "29503503e6de23204c74b10ff87e0de9242adf356ece5a2d0d43a438a63559e8", func := "moothall/mootkeep4.LedgerClosed", spec := "ledgerClosed", plainKeys := false, apart := false, narrowed := true }
def LedgerClosedUptoSaid : Prop := ledgerClosedUptoRow.holds Try.pinned (OpenSpec.upto ledgerClosedSpec)

/-- 'mootlaw4.LedgerPays', WHERE WHAT IT READS IS OF BULK AT MOST 1048576: true; the input reads as it did. -/
def ledgerPaysUptoRow : OpenClaim := { program := "ytenhnlclnjnboaa", sum := "29503503e6de23204c74b10ff87e0de9242adf356ece5a2d0d43a438a63559e8", func := "moothall/mootlaw4.LedgerPays", spec := "ledgerPays", inPlace := ["slices.overlaps[moothall/ledger.Entry]"], unfollowed := true, recurses := true, plainKeys := false, apart := false, narrowed := true }
def LedgerPaysUptoSaid : Prop := ledgerPaysUptoRow.holds Try.pinned (OpenSpec.upto ledgerPaysSpec)

/-- 'mootlaw4.LedgerTells', WHERE WHAT IT READS IS OF BULK AT MOST 1048576: true; the input reads as it did. -/
def ledgerTellsUptoRow : OpenClaim := { program := "ytenhnlclnjnboaa", sum := "29503503e6de23204c74b10ff87e0de9242adf356ece5a2d0d43a438a63559e8", func := "moothall/mootlaw4.LedgerTells", spec := "ledgerTells", unfollowed := true, recurses := true, plainKeys := false, apart := false, narrowed := true }
def LedgerTellsUptoSaid : Prop := ledgerTellsUptoRow.holds Try.pinned (OpenSpec.upto ledgerTellsSpec)

/-- 'mootkeep4.LedgerPaid', WHERE WHAT IT READS IS OF BULK AT MOST 1048576: true; the input reads as it did. -/
def ledgerPaidUptoRow : OpenClaim := { program := "ytenhnlclnjnboaa", sum := "29503503e6de23204c74b10ff87e0de9242adf356ece5a2d0d43a438a63559e8", func := "moothall/mootkeep4.LedgerPaid", spec := "ledgerPaid", unfollowed := true, recurses := true, plainKeys := false, apart := false, narrowed := true }
def LedgerPaidUptoSaid : Prop := ledgerPaidUptoRow.holds Try.pinned (OpenSpec.upto ledgerPaidSpec)

end Rows
end Go.Proofs.Ytenhnlclnjnboaa
