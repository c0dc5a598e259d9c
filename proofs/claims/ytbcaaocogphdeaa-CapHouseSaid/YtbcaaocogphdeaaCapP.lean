/- Plain lemmas: numbers that need no wrap, tests, rounds. -/
import Derived.Test.YtbcaaocogphdeaaPCapx0
namespace Go.Proofs.Ytbcaaocogphdeaa.Pure
open Go.RowKit Go.Proofs.Ytbcaaocogphdeaa.PCap Go.Proofs.YtbcaaocogphdeaaW.PrintWords Go.Proofs.YtbcaaocogphdeaaW.PrintLast
set_option linter.unusedVariables false
set_option linter.unusedSimpArgs false

theorem w64 {a : Int} (h0 : -9223372036854775808 ≤ a) (h1 : a ≤ 9223372036854775807) : wrap64 a = a := by unfold wrap64; omega
theorem Ev.ite_pos {α : Type} {c : Prop} [Decidable c] {f g : Nat → Option α} {r : α} (hc : c) (h : Ev f r) : Ev (fun k => if c then f k else g k) r := Ev.congr (fun _ => if_pos hc) h
theorem Ev.ite_neg {α : Type} {c : Prop} [Decidable c] {f g : Nat → Option α} {r : α} (hc : ¬ c) (h : Ev g r) : Ev (fun k => if c then f k else g k) r := Ev.congr (fun _ => if_neg hc) h
theorem Ev.some_ {α : Type} {r r' : α} (h : r = r') : Ev (fun _ => some r) r' := h ▸ Ev.now r
theorem Ev.res {α : Type} {g : Nat → Option α} {r r' : α} (e : r' = r) (h : Ev g r) : Ev g r' := e ▸ h
theorem mx_eq (a b : Int) : mx a b = max a b := by unfold mx; split <;> omega
theorem mn_eq (a b : Int) : mn a b = min a b := by unfold mn; split <;> omega
end Go.Proofs.Ytbcaaocogphdeaa.Pure
