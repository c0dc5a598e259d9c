-- Printed by this session's wip/myprint.py.
import Derived.Test.YtghnbiknghelpaaPBtlx0
namespace Go.Proofs.Ytghnbiknghelpaa.PBtl
open Go.RowKit Go.Proofs.YtghnbiknghelpaaW.PrintWords Go.Proofs.YtghnbiknghelpaaW.PrintLast Go.Proofs.YtghnbiknghelpaaW.PrintMore
attribute [local go_sem] max2_int min2_int max_two min_two max_three min_three max_four min_four   -- for this text's walks alone
set_option linter.unusedVariables false
set_option linter.unusedSimpArgs false

/-! ### opened: function 999999 -/
open Go.Proofs.Ytghnbiknghelpaa.Open
theorem opens_t3 : Opens Try.prog 3 (Kd.int .i64) (fun n => (Lit.int .i64 n).wf = true) := opens_int Try.underlying3 (by kernel_rfl)
def wf_S25 (x : S25) : Prop := (Lit.int .i64 x.f0).wf = true ∧ (Lit.int .i64 x.f1).wf = true ∧ (Lit.int .i64 x.f2).wf = true
set_option maxRecDepth 100000 in
theorem opens_t25 : Opens Try.prog 25 k25 wf_S25 :=
  opens_struct (d := (Kd.pair (Kd.int .i64) (Kd.pair (Kd.int .i64) (Kd.int .i64)))) (Wf := fun z : Int × Int × Int => (Lit.int .i64 z.1).wf = true ∧ (Lit.int .i64 z.2.1).wf = true ∧ (Lit.int .i64 z.2.2).wf = true) (f := fun x : S25 => (x.f0, x.f1, x.f2)) Try.underlying25 (by kernel_rfl) (opensF_cons (j := 0) (d := (Kd.int .i64)) (e := (Kd.pair (Kd.int .i64) (Kd.int .i64))) (Wf := fun y : Int => (Lit.int .i64 y).wf = true) (Wg := fun y : Int × Int => (Lit.int .i64 y.1).wf = true ∧ (Lit.int .i64 y.2).wf = true) (by rfl) (by rfl) opens_t3 (opensF_cons (j := 1) (d := (Kd.int .i64)) (e := (Kd.int .i64)) (Wf := fun y : Int => (Lit.int .i64 y).wf = true) (Wg := fun y => (Lit.int .i64 y).wf = true) (by rfl) (by rfl) opens_t3 (opensF_last (j := 2) (d := (Kd.int .i64)) (Wf := fun y => (Lit.int .i64 y).wf = true) (by rfl) (by rfl) opens_t3))) (fun z => ⟨⟨z.1, z.2.1, z.2.2⟩, rfl⟩)
theorem opens_t4 : Opens Try.prog 4 Kd.bool (fun _ => True) := opens_bool Try.underlying4 (by kernel_rfl)
def wf_S34 (x : S34) : Prop := True ∧ (Lit.int .i64 x.f1).wf = true ∧ (Lit.int .i64 x.f2).wf = true
set_option maxRecDepth 100000 in
theorem opens_t34 : Opens Try.prog 34 k34 wf_S34 :=
  opens_struct (d := (Kd.pair Kd.bool (Kd.pair (Kd.int .i64) (Kd.int .i64)))) (Wf := fun z : Bool × Int × Int => True ∧ (Lit.int .i64 z.2.1).wf = true ∧ (Lit.int .i64 z.2.2).wf = true) (f := fun x : S34 => (x.f0, x.f1, x.f2)) Try.underlying34 (by kernel_rfl) (opensF_cons (j := 0) (d := Kd.bool) (e := (Kd.pair (Kd.int .i64) (Kd.int .i64))) (Wf := fun y : Bool => True) (Wg := fun y : Int × Int => (Lit.int .i64 y.1).wf = true ∧ (Lit.int .i64 y.2).wf = true) (by rfl) (by rfl) opens_t4 (opensF_cons (j := 1) (d := (Kd.int .i64)) (e := (Kd.int .i64)) (Wf := fun y : Int => (Lit.int .i64 y).wf = true) (Wg := fun y => (Lit.int .i64 y).wf = true) (by rfl) (by rfl) opens_t3 (opensF_last (j := 2) (d := (Kd.int .i64)) (Wf := fun y => (Lit.int .i64 y).wf = true) (by rfl) (by rfl) opens_t3))) (fun z => ⟨⟨z.1, z.2.1, z.2.2⟩, rfl⟩)
theorem opens_t26 : Opens Try.prog 26 (Kd.slice 34 k34) (fun l => l.length ≤ maxLen ∧ ∀ x ∈ l, wf_S34 x) := opens_slice Try.underlying26 (by kernel_rfl) opens_t34 (by decide)
theorem opens_t9 : Opens Try.prog 9 Kd.string (fun s => s.size ≤ maxLen) := opens_string Try.underlying9 (by kernel_rfl)
def wf_S43 (x : S43) : Prop := (Lit.int .i64 x.f0).wf = true ∧ (Lit.int .i64 x.f1).wf = true
set_option maxRecDepth 100000 in
theorem opens_t43 : Opens Try.prog 43 k43 wf_S43 :=
  opens_struct (d := (Kd.pair (Kd.int .i64) (Kd.int .i64))) (Wf := fun z : Int × Int => (Lit.int .i64 z.1).wf = true ∧ (Lit.int .i64 z.2).wf = true) (f := fun x : S43 => (x.f0, x.f1)) Try.underlying43 (by kernel_rfl) (opensF_cons (j := 0) (d := (Kd.int .i64)) (e := (Kd.int .i64)) (Wf := fun y : Int => (Lit.int .i64 y).wf = true) (Wg := fun y => (Lit.int .i64 y).wf = true) (by rfl) (by rfl) opens_t3 (opensF_last (j := 1) (d := (Kd.int .i64)) (Wf := fun y => (Lit.int .i64 y).wf = true) (by rfl) (by rfl) opens_t3)) (fun z => ⟨⟨z.1, z.2⟩, rfl⟩)
def wf_S45 (x : S45) : Prop := (Lit.int .i64 x.f0).wf = true ∧ x.f1.size ≤ maxLen ∧ wf_S43 x.f2 ∧ (Lit.int .i64 x.f3).wf = true ∧ (Lit.int .i64 x.f4).wf = true ∧ (Lit.int .i64 x.f5).wf = true
set_option maxRecDepth 100000 in
theorem opens_t45 : Opens Try.prog 45 k45 wf_S45 :=
  opens_struct (d := (Kd.pair (Kd.int .i64) (Kd.pair Kd.string (Kd.pair k43 (Kd.pair (Kd.int .i64) (Kd.pair (Kd.int .i64) (Kd.int .i64))))))) (Wf := fun z : Int × ByteArray × S43 × Int × Int × Int => (Lit.int .i64 z.1).wf = true ∧ z.2.1.size ≤ maxLen ∧ wf_S43 z.2.2.1 ∧ (Lit.int .i64 z.2.2.2.1).wf = true ∧ (Lit.int .i64 z.2.2.2.2.1).wf = true ∧ (Lit.int .i64 z.2.2.2.2.2).wf = true) (f := fun x : S45 => (x.f0, x.f1, x.f2, x.f3, x.f4, x.f5)) Try.underlying45 (by kernel_rfl) (opensF_cons (j := 0) (d := (Kd.int .i64)) (e := (Kd.pair Kd.string (Kd.pair k43 (Kd.pair (Kd.int .i64) (Kd.pair (Kd.int .i64) (Kd.int .i64)))))) (Wf := fun y : Int => (Lit.int .i64 y).wf = true) (Wg := fun y : ByteArray × S43 × Int × Int × Int => y.1.size ≤ maxLen ∧ wf_S43 y.2.1 ∧ (Lit.int .i64 y.2.2.1).wf = true ∧ (Lit.int .i64 y.2.2.2.1).wf = true ∧ (Lit.int .i64 y.2.2.2.2).wf = true) (by rfl) (by rfl) opens_t3 (opensF_cons (j := 1) (d := Kd.string) (e := (Kd.pair k43 (Kd.pair (Kd.int .i64) (Kd.pair (Kd.int .i64) (Kd.int .i64))))) (Wf := fun y : ByteArray => y.size ≤ maxLen) (Wg := fun y : S43 × Int × Int × Int => wf_S43 y.1 ∧ (Lit.int .i64 y.2.1).wf = true ∧ (Lit.int .i64 y.2.2.1).wf = true ∧ (Lit.int .i64 y.2.2.2).wf = true) (by rfl) (by rfl) opens_t9 (opensF_cons (j := 2) (d := k43) (e := (Kd.pair (Kd.int .i64) (Kd.pair (Kd.int .i64) (Kd.int .i64)))) (Wf := fun y : S43 => wf_S43 y) (Wg := fun y : Int × Int × Int => (Lit.int .i64 y.1).wf = true ∧ (Lit.int .i64 y.2.1).wf = true ∧ (Lit.int .i64 y.2.2).wf = true) (by rfl) (by rfl) opens_t43 (opensF_cons (j := 3) (d := (Kd.int .i64)) (e := (Kd.pair (Kd.int .i64) (Kd.int .i64))) (Wf := fun y : Int => (Lit.int .i64 y).wf = true) (Wg := fun y : Int × Int => (Lit.int .i64 y.1).wf = true ∧ (Lit.int .i64 y.2).wf = true) (by rfl) (by rfl) opens_t3 (opensF_cons (j := 4) (d := (Kd.int .i64)) (e := (Kd.int .i64)) (Wf := fun y : Int => (Lit.int .i64 y).wf = true) (Wg := fun y => (Lit.int .i64 y).wf = true) (by rfl) (by rfl) opens_t3 (opensF_last (j := 5) (d := (Kd.int .i64)) (Wf := fun y => (Lit.int .i64 y).wf = true) (by rfl) (by rfl) opens_t3)))))) (fun z => ⟨⟨z.1, z.2.1, z.2.2.1, z.2.2.2.1, z.2.2.2.2.1, z.2.2.2.2.2⟩, rfl⟩)

end Go.Proofs.Ytghnbiknghelpaa.PBtl
