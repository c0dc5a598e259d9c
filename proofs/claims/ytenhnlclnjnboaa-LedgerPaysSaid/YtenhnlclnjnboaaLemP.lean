/- Plain lemmas: numbers that need no wrap, rounds, raw numbers from a stream. -/
import Derived.Test.YtenhnlclnjnboaaPAllx0
import Derived.Test.YtenhnlclnjnboaaPAllx4
import Derived.Test.YtenhnlclnjnboaaPAllx5
namespace Go.Proofs.Ytenhnlclnjnboaa.Pure
open Go.RowKit Go.Proofs.Ytenhnlclnjnboaa.PAll Go.Proofs.YtenhnlclnjnboaaW.PrintWords Go.Proofs.YtenhnlclnjnboaaW.PrintLast
set_option linter.unusedVariables false
set_option linter.unusedSimpArgs false


theorem w64 {a : Int} (h0 : -9223372036854775808 ≤ a) (h1 : a ≤ 9223372036854775807) : wrap64 a = a := by unfold wrap64; omega

theorem Ev.ite_pos {α : Type} {c : Prop} [Decidable c] {f g : Nat → Option α} {r : α} (hc : c) (h : Ev f r) : Ev (fun k => if c then f k else g k) r := Ev.congr (fun _ => if_pos hc) h

theorem Ev.ite_neg {α : Type} {c : Prop} [Decidable c] {f g : Nat → Option α} {r : α} (hc : ¬ c) (h : Ev g r) : Ev (fun k => if c then f k else g k) r := Ev.congr (fun _ => if_neg hc) h

theorem Ev.some_ {α : Type} {r r' : α} (h : r = r') : Ev (fun _ => some r) r' := h ▸ Ev.now r

theorem Ev.res {α : Type} {g : Nat → Option α} {r r' : α} (e : r' = r) (h : Ev g r) : Ev g r' := e ▸ h

theorem drop_cons {α : Type} (l : List α) (z : α) (i : Nat) (h : i < l.length) : l.drop i = l.getD i z :: l.drop (i + 1) := by
  rw [List.drop_eq_getElem_cons h]; simp [List.getD_eq_getElem?_getD, h]

def oneV (e : S35) : Int :=
  if e.f0 < 0 ∨ e.f0 > 1048575 ∨ min e.f1 e.f2 < 0 ∨ max e.f1 e.f2 ≥ 100 then 1 else if e.f1 = e.f2 then 3 else if e.f3 < 1 ∨ e.f3 > 1099511627776 then 2 else 0

def chk (p : Int) : List S35 → Int
  | [] => 0
  | e :: es => if oneV e = 0 then (if p > e.f0 then 9 else chk e.f0 es) else oneV e

def checkV (l : List S35) : Int := if l.length > 2000 then 6 else chk 0 l

theorem mx_eq (a b : Int) : mx a b = max a b := by unfold mx; split <;> omega

theorem mn_eq (a b : Int) : mn a b = min a b := by unfold mn; split <;> omega

theorem one_ok (e : S35) : Ev (fun k => ledger_one.f k e.f0 e.f1 e.f2 e.f3) (oneV e) := by
  have j : ∀ b : Bool, Ev (fun k => ledger_one.j0 k b e.f0 e.f1 e.f2 e.f3) (if b = true then 1 else if e.f1 = e.f2 then 3 else if e.f3 < 1 ∨ e.f3 > 1099511627776 then 2 else 0) := by
    intro b
    apply Ev.step
    · intro k; rw [ledger_one.j0]
    · by_cases c : b = true
      · exact Ev.res (if_pos c) (Ev.ite_pos c (Ev.now _))
      · refine Ev.res (if_neg c) (Ev.ite_neg c ?_)
        by_cases c2 : e.f1 = e.f2
        · exact Ev.res (if_pos c2) (Ev.ite_pos c2 (Ev.now _))
        · refine Ev.res (if_neg c2) (Ev.ite_neg c2 ?_)
          by_cases c3 : e.f3 < 1
          · exact Ev.res (if_pos (Or.inl c3)) (Ev.ite_pos c3 (Ev.now _))
          · refine Ev.ite_neg c3 ?_
            by_cases c4 : e.f3 > 1099511627776
            · exact Ev.res (if_pos (Or.inr c4)) (Ev.ite_pos c4 (Ev.now _))
            · exact Ev.res (if_neg (by omega)) (Ev.ite_neg c4 (Ev.now _))
  unfold ledger_one.f oneV
  rw [mn_eq, mx_eq]
  by_cases c1 : e.f0 < 0
  · exact Ev.res (if_pos (by omega)) (Ev.ite_pos c1 (j true))
  · refine Ev.ite_neg c1 ?_
    by_cases c2 : e.f0 > 1048575
    · exact Ev.res (if_pos (by omega)) (Ev.ite_pos c2 (j true))
    · refine Ev.ite_neg c2 ?_
      by_cases c3 : min e.f1 e.f2 < 0
      · exact Ev.res (if_pos (by omega)) (Ev.ite_pos c3 (j true))
      · refine Ev.ite_neg c3 ?_
        by_cases c4 : max e.f1 e.f2 ≥ 100
        · refine Ev.res (if_pos (by omega)) ?_
          rw [decide_eq_true c4]; exact j true
        · refine Ev.res (if_neg (by omega)) ?_
          rw [decide_eq_false c4]; exact j false

def rdE (l : List S35) (i : Nat) : S35 := l.getD i z35

theorem rd_nat (l : List S35) (i : Nat) : rd_T35 l (i : Int) = rdE l i := rfl

theorem one_day (e : S35) (h : oneV e = 0) : 0 ≤ e.f0 ∧ e.f0 ≤ 1048575 ∧ 0 ≤ e.f1 ∧ 0 ≤ e.f2 ∧ e.f1 ≤ 99 ∧ e.f2 ≤ 99 ∧ e.f1 ≠ e.f2 ∧ 1 ≤ e.f3 ∧ e.f3 ≤ 1099511627776 := by
  unfold oneV at h
  split at h
  · omega
  · split at h
    · omega
    · split at h
      · omega
      · omega

theorem check_l0 (l : List S35) (hn : l.length ≤ 2000) : ∀ (n i : Nat), i + n = l.length → Ev (fun k => ledger_Check.l0 k l l (l.length : Int) (i : Int)) (chk (if i = 0 then 0 else (rdE l (i - 1)).f0) (l.drop i)) := by
  intro n
  induction n with
  | zero =>
    intro i h
    rw [List.drop_of_length_le (by omega)]
    apply Ev.step
    · intro k; rw [ledger_Check.l0]
    · exact Ev.ite_neg (by omega) (Ev.now _)
  | succ n ih =>
    intro i h
    have e := ih (i + 1) (by omega)
    rw [drop_cons l z35 i (by omega), chk]
    apply Ev.step
    · intro k; rw [ledger_Check.l0]
    · refine Ev.ite_pos (by omega) (Ev.ite_pos (by omega) (Ev.ite_pos (by omega) ?_))
      rw [rd_nat]
      refine Ev.bind (one_ok (rdE l i)) ?_
      rw [show wrap64 ((i : Int) + 1) = ((i + 1 : Nat) : Int) by rw [w64 (by omega) (by omega)]; omega]
      by_cases c : oneV (rdE l i) = 0
      · refine Ev.res (if_pos c) (Ev.ite_pos c ?_)
        have hd := (one_day _ c).1
        rw [if_neg (by omega)] at e
        simp only [Nat.add_sub_cancel] at e
        by_cases c0 : i = 0
        · refine Ev.ite_neg (by omega) ?_
          refine Ev.res (if_neg ?_) e
          rw [if_pos c0]; show ¬ 0 > (rdE l i).f0; omega
        · rw [w64 (a := (i : Int) - 1) (by omega) (by omega)]
          refine Ev.ite_pos (by omega) (Ev.ite_pos (by omega) (Ev.ite_pos (by omega) ?_))
          rw [show (i : Int) - 1 = ((i - 1 : Nat) : Int) by omega, rd_nat]
          rw [if_neg c0]
          by_cases cp : (rdE l (i - 1)).f0 > (rdE l i).f0
          · exact Ev.res (if_pos cp) (Ev.ite_pos cp (Ev.now _))
          · exact Ev.res (if_neg cp) (Ev.ite_neg cp e)
      · exact Ev.res (if_neg c) (Ev.ite_neg c (Ev.now _))

theorem check_ok (l : List S35) : Ev (fun k => ledger_Check.f k l) (checkV l) := by
  unfold ledger_Check.f checkV
  by_cases c : l.length > 2000
  · exact Ev.res (if_pos c) (Ev.ite_pos (by omega) (Ev.now _))
  · refine Ev.res (if_neg c) (Ev.ite_neg (by omega) ?_)
    have e := check_l0 l (by omega) l.length 0 (by omega)
    simpa using e

end Go.Proofs.Ytenhnlclnjnboaa.Pure
