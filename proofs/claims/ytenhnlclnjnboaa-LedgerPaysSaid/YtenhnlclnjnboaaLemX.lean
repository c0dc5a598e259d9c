/- Plain lemmas: what the reference's checks of entries and of ledgers come to; a ledger equals itself. -/
import Derived.Test.YtenhnlclnjnboaaPAllx0
import Derived.Test.YtenhnlclnjnboaaPAllx19
import Derived.Test.YtenhnlclnjnboaaPAllx21
import Derived.Test.YtenhnlclnjnboaaPAllx22
import Derived.Test.YtenhnlclnjnboaaPAllx25
import Derived.Test.YtenhnlclnjnboaaLemP
namespace Go.Proofs.Ytenhnlclnjnboaa.Pure
open Go.RowKit Go.Proofs.Ytenhnlclnjnboaa.PAll Go.Proofs.YtenhnlclnjnboaaW.PrintWords Go.Proofs.YtenhnlclnjnboaaW.PrintLast
set_option linter.unusedVariables false
set_option linter.unusedSimpArgs false

theorem fault1_ok (e : S35) : Ev (fun k => mootlaw4_entryFault.f k e.f0 e.f1 e.f2 e.f3) (oneV e) := by
  have j : ∀ b : Bool, Ev (fun k => mootlaw4_entryFault.j0 k b e.f0 e.f1 e.f2 e.f3) (if b = true then 1 else if e.f1 = e.f2 then 3 else if e.f3 < 1 ∨ e.f3 > 1099511627776 then 2 else 0) := by
    intro b
    apply Ev.step
    · intro k; rw [mootlaw4_entryFault.j0]
    · by_cases c : b = true
      · exact Ev.res (if_pos c) (Ev.ite_pos c (Ev.now _))
      · refine Ev.res (if_neg c) (Ev.ite_neg c ?_)
        by_cases c2 : e.f1 = e.f2
        · exact Ev.res (if_pos c2) (Ev.ite_pos c2 (Ev.now _))
        · refine Ev.res (if_neg c2) (Ev.ite_neg c2 ?_)
          by_cases c3 : e.f3 ≤ 0
          · exact Ev.res (if_pos (Or.inl (by omega))) (Ev.ite_pos c3 (Ev.now _))
          · refine Ev.ite_neg c3 ?_
            by_cases c4 : e.f3 > 1099511627776
            · exact Ev.res (if_pos (Or.inr c4)) (Ev.ite_pos c4 (Ev.now _))
            · exact Ev.res (if_neg (by omega)) (Ev.ite_neg c4 (Ev.now _))
  unfold mootlaw4_entryFault.f oneV
  by_cases c1 : e.f0 < 0
  · exact Ev.res (if_pos (by omega)) (Ev.ite_pos c1 (j true))
  · refine Ev.ite_neg c1 ?_
    by_cases c2 : e.f0 > 1048575
    · exact Ev.res (if_pos (by omega)) (Ev.ite_pos c2 (j true))
    · refine Ev.ite_neg c2 ?_
      by_cases c3 : e.f1 < 0
      · exact Ev.res (if_pos (by omega)) (Ev.ite_pos c3 (j true))
      · refine Ev.ite_neg c3 ?_
        by_cases c4 : e.f2 < 0
        · exact Ev.res (if_pos (by omega)) (Ev.ite_pos c4 (j true))
        · refine Ev.ite_neg c4 ?_
          by_cases c5 : e.f1 > 99
          · exact Ev.res (if_pos (by omega)) (Ev.ite_pos c5 (j true))
          · refine Ev.ite_neg c5 ?_
            by_cases c6 : e.f2 > 99
            · refine Ev.res (if_pos (by omega)) ?_
              rw [decide_eq_true c6]; exact j true
            · refine Ev.res (if_neg (by omega)) ?_
              rw [decide_eq_false c6]; exact j false
theorem fault_l0 (l : List S35) (hn : l.length ≤ 2000) : ∀ (n i : Nat) (p : Int), i + n = l.length → Ev (fun k => mootlaw4_ledgerFault.l0 k p l (l.length : Int) (i : Int)) (chk p (l.drop i)) := by
  intro n
  induction n with
  | zero =>
    intro i p h
    rw [List.drop_of_length_le (by omega)]
    apply Ev.step
    · intro k; rw [mootlaw4_ledgerFault.l0]
    · exact Ev.ite_neg (by omega) (Ev.now _)
  | succ n ih =>
    intro i p h
    have e := ih (i + 1) (rdE l i).f0 (by omega)
    rw [drop_cons l z35 i (by omega), chk]
    apply Ev.step
    · intro k; rw [mootlaw4_ledgerFault.l0]
    · refine Ev.ite_pos (by omega) (Ev.ite_pos (by omega) (Ev.ite_pos (by omega) ?_))
      rw [rd_nat]
      refine Ev.bind (fault1_ok (rdE l i)) ?_
      rw [show wrap64 ((i : Int) + 1) = ((i + 1 : Nat) : Int) by rw [w64 (by omega) (by omega)]; omega]
      by_cases c : oneV (rdE l i) = 0
      · refine Ev.res (if_pos c) (Ev.ite_pos c ?_)
        by_cases cp : (rdE l i).f0 < p
        · exact Ev.res (if_pos cp) (Ev.ite_pos cp (Ev.now _))
        · exact Ev.res (if_neg cp) (Ev.ite_neg cp e)
      · exact Ev.res (if_neg c) (Ev.ite_neg c (Ev.now _))
theorem fault_ok (l : List S35) : Ev (fun k => mootlaw4_ledgerFault.f k l) (checkV l) := by
  unfold mootlaw4_ledgerFault.f checkV
  by_cases c : l.length > 2000
  · exact Ev.res (if_pos c) (Ev.ite_pos (by omega) (Ev.now _))
  · refine Ev.res (if_neg c) (Ev.ite_neg (by omega) ?_)
    simpa using fault_l0 l (by omega) l.length 0 0 (by omega)
theorem equal_l0 (l : List S35) (hn : l.length ≤ 4398046511104) : ∀ (n i : Nat), i + n = l.length → Ev (fun k => ledger_Entry_24.l0 k l l (l.length : Int) (i : Int)) true := by
  intro n
  induction n with
  | zero =>
    intro i h
    apply Ev.step
    · intro k; rw [ledger_Entry_24.l0]
    · exact Ev.ite_neg (by omega) (Ev.now _)
  | succ n ih =>
    intro i h
    have e := ih (i + 1) (by omega)
    apply Ev.step
    · intro k; rw [ledger_Entry_24.l0]
    · refine Ev.ite_pos (by omega) (Ev.ite_pos (by omega) (Ev.ite_pos (by omega) (Ev.ite_pos (by omega) (Ev.ite_neg (by simp) ?_))))
      rw [show wrap64 ((i : Int) + 1) = ((i + 1 : Nat) : Int) by rw [w64 (by omega) (by omega)]; omega]
      exact e
theorem equal_ok (l : List S35) (hn : l.length ≤ 4398046511104) : Ev (fun k => ledger_Entry_24.f k l l) true := by
  unfold ledger_Entry_24.f
  exact Ev.ite_pos rfl (equal_l0 l hn l.length 0 (by omega))
theorem posts_ok : Ev (fun k => mootlaw4_posts.f k) true := Ev.of (mootlaw4_posts.mono) (k := 20) (by decide +kernel)
end Go.Proofs.Ytenhnlclnjnboaa.Pure
