-- Printed by this session's wip/myprint.py.
import Derived.Test.YtenhnlclnjnboaaPTelx0
namespace Go.Proofs.Ytenhnlclnjnboaa.PTel
open Go.RowKit Go.Proofs.YtenhnlclnjnboaaW.PrintWords Go.Proofs.YtenhnlclnjnboaaW.PrintLast Go.Proofs.YtenhnlclnjnboaaW.PrintMore
attribute [local go_sem] max2_int min2_int max_two min_two max_three min_three max_four min_four   -- for this text's walks alone
set_option linter.unusedVariables false
set_option linter.unusedSimpArgs false

/-! ### opened: function 999999 -/
open Go.Proofs.Ytenhnlclnjnboaa.Open
theorem opens_t3 : Opens Try.prog 3 (Kd.int .i64) (fun n => (Lit.int .i64 n).wf = true) := opens_int Try.underlying3 (by kernel_rfl)
def wf_S35 (x : S35) : Prop := (Lit.int .i64 x.f0).wf = true ∧ (Lit.int .i64 x.f1).wf = true ∧ (Lit.int .i64 x.f2).wf = true ∧ (Lit.int .i64 x.f3).wf = true
set_option maxRecDepth 100000 in
theorem opens_t35 : Opens Try.prog 35 k35 wf_S35 :=
  opens_struct (d := (Kd.pair (Kd.int .i64) (Kd.pair (Kd.int .i64) (Kd.pair (Kd.int .i64) (Kd.int .i64))))) (Wf := fun z : Int × Int × Int × Int => (Lit.int .i64 z.1).wf = true ∧ (Lit.int .i64 z.2.1).wf = true ∧ (Lit.int .i64 z.2.2.1).wf = true ∧ (Lit.int .i64 z.2.2.2).wf = true) (f := fun x : S35 => (x.f0, x.f1, x.f2, x.f3)) Try.underlying35 (by kernel_rfl) (opensF_cons (j := 0) (d := (Kd.int .i64)) (e := (Kd.pair (Kd.int .i64) (Kd.pair (Kd.int .i64) (Kd.int .i64)))) (Wf := fun y : Int => (Lit.int .i64 y).wf = true) (Wg := fun y : Int × Int × Int => (Lit.int .i64 y.1).wf = true ∧ (Lit.int .i64 y.2.1).wf = true ∧ (Lit.int .i64 y.2.2).wf = true) (by rfl) (by rfl) opens_t3 (opensF_cons (j := 1) (d := (Kd.int .i64)) (e := (Kd.pair (Kd.int .i64) (Kd.int .i64))) (Wf := fun y : Int => (Lit.int .i64 y).wf = true) (Wg := fun y : Int × Int => (Lit.int .i64 y.1).wf = true ∧ (Lit.int .i64 y.2).wf = true) (by rfl) (by rfl) opens_t3 (opensF_cons (j := 2) (d := (Kd.int .i64)) (e := (Kd.int .i64)) (Wf := fun y : Int => (Lit.int .i64 y).wf = true) (Wg := fun y => (Lit.int .i64 y).wf = true) (by rfl) (by rfl) opens_t3 (opensF_last (j := 3) (d := (Kd.int .i64)) (Wf := fun y => (Lit.int .i64 y).wf = true) (by rfl) (by rfl) opens_t3)))) (fun z => ⟨⟨z.1, z.2.1, z.2.2.1, z.2.2.2⟩, rfl⟩)
theorem opens_t24 : Opens Try.prog 24 (Kd.slice 35 k35) (fun l => l.length ≤ maxLen ∧ ∀ x ∈ l, wf_S35 x) := opens_slice Try.underlying24 (by kernel_rfl) opens_t35 (by decide)

end Go.Proofs.Ytenhnlclnjnboaa.PTel
