/- An entry that is undone on the last day leaves all balances of that day as they are without it: for every list of raw numbers and every raw index. -/
import Derived.Test.YtenhnlclnjnboaaPAllx0
import Derived.Test.YtenhnlclnjnboaaPAllx13
import Derived.Test.YtenhnlclnjnboaaPAllx15
import Derived.Test.YtenhnlclnjnboaaPAllx16
import Derived.Test.YtenhnlclnjnboaaPAllx17
import Derived.Test.YtenhnlclnjnboaaLemD
namespace Go.Proofs.Ytenhnlclnjnboaa.Pure
open Go.RowKit Go.Proofs.Ytenhnlclnjnboaa.PAll Go.Proofs.YtenhnlclnjnboaaW.PrintWords Go.Proofs.YtenhnlclnjnboaaW.PrintLast
set_option linter.unusedVariables false
set_option linter.unusedSimpArgs false

theorem undo_ok (x : List S35) (k : Nat) (d : Int) (h : checkV x = 0) (hm : ∀ e ∈ x, madeE e) (hl : x.length ≤ 11) (hk : k < x.length) (hx : ∀ e ∈ x, e.f0 ≤ d) (d0 : 0 ≤ d) (d1 : d ≤ 1048575) :
    Ev (fun n => ledger_Undo.f n x (k : Int) d) (x ++ [(⟨d, (rdE x k).f2, (rdE x k).f1, (rdE x k).f3⟩ : S35)], 0) := by
  have hc := check_ok x
  rw [h] at hc
  have hmk : rdE x k ∈ x := by
    have : rdE x k = x[k]'hk := by simp [rdE, List.getD_eq_getElem?_getD, hk]
    rw [this]; exact List.getElem_mem _
  obtain ⟨a1, a2, a3, a4, a5, a6, a7, a8, a9⟩ := hm _ hmk
  unfold ledger_Undo.f
  refine Ev.bind hc (Ev.ite_pos rfl (Ev.ite_neg (by omega) (Ev.ite_neg (by omega) (Ev.ite_pos (by omega) (Ev.ite_pos (by omega) ?_)))))
  rw [rd_nat]
  refine Ev.bind (post_ok x d (rdE x k).f2 (rdE x k).f1 (rdE x k).f3 h (by unfold oneV; simp only; rw [if_neg (by omega), if_neg (by omega), if_neg (by omega)]) (by omega) hx) (Ev.now _)
theorem undone_l0 (d : Int) (X Y : List S35) (hX : checkV X = 0) (hY : checkV Y = 0) (h : ∀ a, bal a d X = bal a d Y) : ∀ (n i : Nat), i + n = 6 → Ev (fun k => mootkeep4_LedgerUndone.l0 k d X Y (i : Int)) true := by
  intro n
  induction n with
  | zero =>
    intro i hi
    apply Ev.step
    · intro k; rw [mootkeep4_LedgerUndone.l0]
    · exact Ev.ite_neg (by omega) (Ev.now _)
  | succ n ih =>
    intro i hi
    apply Ev.step
    · intro k; rw [mootkeep4_LedgerUndone.l0]
    · refine Ev.ite_pos (by omega) (Ev.bind (balance_ok X (i : Int) d hX (by omega) (by omega)) (Ev.bind (balance_ok Y (i : Int) d hY (by omega) (by omega)) (Ev.ite_pos rfl (Ev.ite_pos rfl (Ev.ite_pos (h _) ?_)))))
      rw [show wrap64 ((i : Int) + 1) = ((i + 1 : Nat) : Int) by rw [w64 (by omega) (by omega)]; omega]
      exact ih (i + 1) (by omega)
theorem eff_turned (a d : Int) (e : S35) (h : e.f0 ≤ d) (hn : e.f1 ≠ e.f2) : eff a d ⟨d, e.f2, e.f1, e.f3⟩ = - eff a d e := by
  unfold eff
  simp only
  rw [if_neg (show ¬ d > d by omega), if_neg (show ¬ e.f0 > d by omega)]
  by_cases c1 : e.f1 = a
  · rw [if_pos c1, if_neg (show ¬ e.f2 = a from fun z => hn (c1.trans z.symm)), if_pos c1]; omega
  · rw [if_neg c1]
    by_cases c2 : e.f2 = a
    · rw [if_pos c2, if_pos c2]
    · rw [if_neg c2, if_neg c2, if_neg c1]; rfl
theorem LedgerUndone : mootkeep4_LedgerUndone.Pure := by
  intro l0 a1 _ _ hl h1
  obtain ⟨x, hx, hn, hm, hc⟩ := entries_ok l0 hl
  have q := wf_bd h1
  refine Ev.rounds ?_
  unfold mootkeep4_LedgerUndone.f
  refine Ev.bind posted_ok (Ev.ite_pos rfl (Ev.bind hx ?_))
  by_cases z : (x.length : Int) = 0
  · exact Ev.ite_pos z (Ev.now _)
  · refine Ev.ite_neg z ?_
    obtain ⟨r, hr, r0, r1⟩ := below_ok a1 (x.length : Int) q.1 q.2 (by omega) (by omega)
    obtain ⟨k, rfl⟩ := Int.eq_ofNat_of_zero_le r0
    have hk : k < x.length := by omega
    simp only [hr, Option.bind_some]
    rw [w64 (a := (x.length : Int) - 1) (by omega) (by omega), w64 (a := (k : Int) + 1) (by omega) (by omega)]
    refine Ev.ite_pos (by omega) (Ev.ite_pos (by omega) ?_)
    rw [show (x.length : Int) - 1 = ((x.length - 1 : Nat) : Int) by omega, rd_nat]
    have hchk : chk 0 x = 0 := by unfold checkV at hc; rw [if_neg (by omega)] at hc; exact hc
    have hlast := chk_last x 0 hchk
    have mem : ∀ j, j < x.length → rdE x j ∈ x := by
      intro j hj
      have : rdE x j = x[j]'hj := by simp [rdE, List.getD_eq_getElem?_getD, hj]
      rw [this]; exact List.getElem_mem _
    have hd := hm _ (mem (x.length - 1) (by omega))
    have hd0 : 0 ≤ (rdE x (x.length - 1)).f0 := by have := hd.1; omega
    have hd1 : (rdE x (x.length - 1)).f0 ≤ 1048575 := by have := hd.2.1; omega
    generalize (rdE x (x.length - 1)).f0 = d at *
    have ek := hm _ (mem k hk)
    refine Ev.bind (undo_ok x k d hc hm hn hk hlast hd0 hd1) ?_
    have e1 : ledger_Entry_18.f x = some x := if_pos (by omega)
    have e2 : ledger_Entry_17.f x (k : Int) ((k : Int) + 1) = some (x.eraseIdx k) := by
      unfold ledger_Entry_17.f
      rw [if_pos (by omega), if_pos (by omega), if_pos rfl]; rfl
    simp only [e1, e2, Option.bind_some]
    refine Ev.ite_pos trivial ?_
    have one : oneV (⟨d, (rdE x k).f2, (rdE x k).f1, (rdE x k).f3⟩ : S35) = 0 := by
      obtain ⟨b1, b2, b3, b4, b5, b6, b7, b8, b9⟩ := ek
      unfold oneV; simp only; rw [if_neg (by omega), if_neg (by omega), if_neg (by omega)]
    refine undone_l0 d _ _ (check_snoc x _ hc one (by omega) hlast) ?_ ?_ 6 0 (by omega)
    · unfold checkV
      have := List.length_eraseIdx_le x k
      rw [if_neg (by omega)]; exact chk_erase x 0 k hchk
    · intro a
      rw [bal_append, bal_erase a d x k hk]
      have := eff_turned a d (rdE x k) (hlast _ (mem k hk)) ek.2.2.2.2.2.2.1
      simp only [bal, this]; omega
end Go.Proofs.Ytenhnlclnjnboaa.Pure
