/- Plain lemmas on ledgers: what Check, Balance and Turnover come to. -/
import Derived.Test.YtenhnlclnjnboaaPAllx0
import Derived.Test.YtenhnlclnjnboaaPAllx4
import Derived.Test.YtenhnlclnjnboaaPAllx5
import Derived.Test.YtenhnlclnjnboaaPAllx6
import Derived.Test.YtenhnlclnjnboaaLemA
namespace Go.Proofs.Ytenhnlclnjnboaa.Pure
open Go.RowKit Go.Proofs.Ytenhnlclnjnboaa.PAll Go.Proofs.YtenhnlclnjnboaaW.PrintWords Go.Proofs.YtenhnlclnjnboaaW.PrintLast
set_option linter.unusedVariables false
set_option linter.unusedSimpArgs false

def oneV (e : S35) : Int :=
  if e.f0 < 0 ∨ e.f0 > 1048575 ∨ min e.f1 e.f2 < 0 ∨ max e.f1 e.f2 ≥ 100 then 1 else if e.f1 = e.f2 then 3 else if e.f3 < 1 ∨ e.f3 > 1099511627776 then 2 else 0
def chk (p : Int) : List S35 → Int
  | [] => 0
  | e :: es => if oneV e = 0 then (if p > e.f0 then 9 else chk e.f0 es) else oneV e
def checkV (l : List S35) : Int := if l.length > 2000 then 6 else chk 0 l
theorem mx_eq (a b : Int) : mx a b = max a b := by unfold mx; split <;> omega
theorem mn_eq (a b : Int) : mn a b = min a b := by unfold mn; split <;> omega
theorem one_ok (e : S35) : Ev (fun k => ledger_one.f k e.f0 e.f1 e.f2 e.f3) (oneV e) := by
  have j : ∀ b : Bool, Ev (fun k => ledger_one.j0 k b e.f0 e.f1 e.f2 e.f3) (if b = true then 1 else if e.f1 = e.f2 then 3 else if e.f3 < 1 ∨ e.f3 > 1099511627776 then 2 else 0) := by
    intro b
    apply Ev.step
    · intro k; rw [ledger_one.j0]
    · by_cases c : b = true
      · exact Ev.res (if_pos c) (Ev.ite_pos c (Ev.now _))
      · refine Ev.res (if_neg c) (Ev.ite_neg c ?_)
        by_cases c2 : e.f1 = e.f2
        · exact Ev.res (if_pos c2) (Ev.ite_pos c2 (Ev.now _))
        · refine Ev.res (if_neg c2) (Ev.ite_neg c2 ?_)
          by_cases c3 : e.f3 < 1
          · exact Ev.res (if_pos (Or.inl c3)) (Ev.ite_pos c3 (Ev.now _))
          · refine Ev.ite_neg c3 ?_
            by_cases c4 : e.f3 > 1099511627776
            · exact Ev.res (if_pos (Or.inr c4)) (Ev.ite_pos c4 (Ev.now _))
            · exact Ev.res (if_neg (by omega)) (Ev.ite_neg c4 (Ev.now _))
  unfold ledger_one.f oneV
  rw [mn_eq, mx_eq]
  by_cases c1 : e.f0 < 0
  · exact Ev.res (if_pos (by omega)) (Ev.ite_pos c1 (j true))
  · refine Ev.ite_neg c1 ?_
    by_cases c2 : e.f0 > 1048575
    · exact Ev.res (if_pos (by omega)) (Ev.ite_pos c2 (j true))
    · refine Ev.ite_neg c2 ?_
      by_cases c3 : min e.f1 e.f2 < 0
      · exact Ev.res (if_pos (by omega)) (Ev.ite_pos c3 (j true))
      · refine Ev.ite_neg c3 ?_
        by_cases c4 : max e.f1 e.f2 ≥ 100
        · refine Ev.res (if_pos (by omega)) ?_
          rw [decide_eq_true c4]; exact j true
        · refine Ev.res (if_neg (by omega)) ?_
          rw [decide_eq_false c4]; exact j false
def rdE (l : List S35) (i : Nat) : S35 := l.getD i z35
theorem rd_nat (l : List S35) (i : Nat) : rd_T35 l (i : Int) = rdE l i := rfl
theorem one_day (e : S35) (h : oneV e = 0) : 0 ≤ e.f0 ∧ e.f0 ≤ 1048575 ∧ 0 ≤ e.f1 ∧ 0 ≤ e.f2 ∧ e.f1 ≤ 99 ∧ e.f2 ≤ 99 ∧ e.f1 ≠ e.f2 ∧ 1 ≤ e.f3 ∧ e.f3 ≤ 1099511627776 := by
  unfold oneV at h
  split at h
  · omega
  · split at h
    · omega
    · split at h
      · omega
      · omega
theorem check_l0 (l : List S35) (hn : l.length ≤ 2000) : ∀ (n i : Nat), i + n = l.length → Ev (fun k => ledger_Check.l0 k l l (l.length : Int) (i : Int)) (chk (if i = 0 then 0 else (rdE l (i - 1)).f0) (l.drop i)) := by
  intro n
  induction n with
  | zero =>
    intro i h
    rw [List.drop_of_length_le (by omega)]
    apply Ev.step
    · intro k; rw [ledger_Check.l0]
    · exact Ev.ite_neg (by omega) (Ev.now _)
  | succ n ih =>
    intro i h
    have e := ih (i + 1) (by omega)
    rw [drop_cons l z35 i (by omega), chk]
    apply Ev.step
    · intro k; rw [ledger_Check.l0]
    · refine Ev.ite_pos (by omega) (Ev.ite_pos (by omega) (Ev.ite_pos (by omega) ?_))
      rw [rd_nat]
      refine Ev.bind (one_ok (rdE l i)) ?_
      rw [show wrap64 ((i : Int) + 1) = ((i + 1 : Nat) : Int) by rw [w64 (by omega) (by omega)]; omega]
      by_cases c : oneV (rdE l i) = 0
      · refine Ev.res (if_pos c) (Ev.ite_pos c ?_)
        have hd := (one_day _ c).1
        rw [if_neg (by omega)] at e
        simp only [Nat.add_sub_cancel] at e
        by_cases c0 : i = 0
        · refine Ev.ite_neg (by omega) ?_
          refine Ev.res (if_neg ?_) e
          rw [if_pos c0]; show ¬ 0 > (rdE l i).f0; omega
        · rw [w64 (a := (i : Int) - 1) (by omega) (by omega)]
          refine Ev.ite_pos (by omega) (Ev.ite_pos (by omega) (Ev.ite_pos (by omega) ?_))
          rw [show (i : Int) - 1 = ((i - 1 : Nat) : Int) by omega, rd_nat]
          rw [if_neg c0]
          by_cases cp : (rdE l (i - 1)).f0 > (rdE l i).f0
          · exact Ev.res (if_pos cp) (Ev.ite_pos cp (Ev.now _))
          · exact Ev.res (if_neg cp) (Ev.ite_neg cp e)
      · exact Ev.res (if_neg c) (Ev.ite_neg c (Ev.now _))
theorem check_ok (l : List S35) : Ev (fun k => ledger_Check.f k l) (checkV l) := by
  unfold ledger_Check.f checkV
  by_cases c : l.length > 2000
  · exact Ev.res (if_pos c) (Ev.ite_pos (by omega) (Ev.now _))
  · refine Ev.res (if_neg c) (Ev.ite_neg (by omega) ?_)
    have e := check_l0 l (by omega) l.length 0 (by omega)
    simpa using e
theorem chk_all (l : List S35) : ∀ p, chk p l = 0 → ∀ e ∈ l, oneV e = 0 := by
  induction l with
  | nil => intro p _ e he; simp at he
  | cons x xs ih =>
    intro p h e he
    rw [chk] at h
    split at h
    · split at h
      · omega
      · rcases List.mem_cons.1 he with rfl | he
        · assumption
        · exact ih _ h e he
    · exact absurd h (by assumption)
theorem check_all {l : List S35} (h : checkV l = 0) : l.length ≤ 2000 ∧ ∀ e ∈ l, oneV e = 0 := by
  unfold checkV at h
  split at h
  · omega
  · exact ⟨by omega, chk_all l 0 h⟩
/-- What an entry does to an account's balance. -/
def eff (a d : Int) (e : S35) : Int := if e.f0 > d then 0 else if e.f2 = a then e.f3 else if e.f1 = a then -e.f3 else 0
def bal (a d : Int) : List S35 → Int
  | [] => 0
  | e :: es => eff a d e + bal a d es
theorem bal_append (a d : Int) (l m : List S35) : bal a d (l ++ m) = bal a d l + bal a d m := by
  induction l with
  | nil => simp [bal]
  | cons e es ih => simp only [List.cons_append, bal, ih]; omega
theorem eff_bd (a d : Int) (e : S35) (B : Int) (h : 0 ≤ e.f3 ∧ e.f3 ≤ B) : -B ≤ eff a d e ∧ eff a d e ≤ B := by
  unfold eff; (split; omega; split; omega; split <;> omega)
theorem bal_bd (a d B : Int) (l : List S35) (h : ∀ e ∈ l, 0 ≤ e.f3 ∧ e.f3 ≤ B) : -(B * l.length) ≤ bal a d l ∧ bal a d l ≤ B * l.length := by
  induction l with
  | nil => simp [bal]
  | cons e es ih =>
    have h1 := eff_bd a d e B (h e (by simp))
    have h2 := ih (fun x hx => h x (by simp [hx]))
    simp only [bal, List.length_cons]
    have : B * ((es.length + 1 : Nat) : Int) = B * es.length + B := by rw [Int.natCast_add, Int.mul_add]; simp
    omega
theorem balance_l0 (l : List S35) (hn : l.length ≤ 2000) (hl : ∀ e ∈ l, 0 ≤ e.f3 ∧ e.f3 ≤ 1099511627776) (a d : Int) : ∀ (n i : Nat) (x : Int), i + n = l.length → -(1099511627776 * i) ≤ x → x ≤ 1099511627776 * i →
    Ev (fun k => ledger_Balance.l0 k a d x l (l.length : Int) (i : Int)) (x + bal a d (l.drop i), 0) := by
  intro n
  induction n with
  | zero =>
    intro i x h h1 h2
    rw [List.drop_of_length_le (by omega)]
    apply Ev.step
    · intro k; rw [ledger_Balance.l0]
    · exact Ev.ite_neg (by omega) (Ev.some_ (by simp [bal]))
  | succ n ih =>
    intro i x h h1 h2
    have hm : rdE l i ∈ l := by
      have : rdE l i = l[i]'(by omega) := by simp [rdE, List.getD_eq_getElem?_getD, show i < l.length by omega]
      rw [this]; exact List.getElem_mem _
    obtain ⟨b1, b2⟩ := hl _ hm
    have hw : wrap64 ((i : Int) + 1) = ((i + 1 : Nat) : Int) := by rw [w64 (by omega) (by omega)]; omega
    rw [drop_cons l z35 i (by omega), bal]
    apply Ev.step
    · intro k; rw [ledger_Balance.l0]
    · refine Ev.ite_pos (by omega) (Ev.ite_pos (by omega) (Ev.ite_pos (by omega) ?_))
      simp only [rd_nat]
      rw [hw]
      have hres : ∀ y : Int, y = eff a d (rdE l i) → -(1099511627776 * ((i + 1 : Nat) : Int)) ≤ x + y → x + y ≤ 1099511627776 * ((i + 1 : Nat) : Int) → Ev (fun k => ledger_Balance.l0 k a d (x + y) l (l.length : Int) ((i + 1 : Nat) : Int)) (x + (eff a d (l.getD i z35) + bal a d (l.drop (i + 1))), 0) := by
        intro y hy h3 h4
        have e := ih (i + 1) (x + y) (by omega) h3 h4
        refine Ev.res ?_ e
        rw [hy]; show (x + (eff a d (rdE l i) + bal a d (l.drop (i + 1))), (0 : Int)) = _
        rw [Int.add_assoc]
      by_cases c1 : (rdE l i).f0 > d
      · refine Ev.ite_pos c1 ?_
        have := hres 0 (by unfold eff; rw [if_pos c1]) (by omega) (by omega)
        simpa using this
      · refine Ev.ite_neg c1 ?_
        by_cases c2 : (rdE l i).f2 = a
        · refine Ev.ite_pos c2 ?_
          rw [w64 (by omega) (by omega)]
          exact hres _ (by unfold eff; rw [if_neg c1, if_pos c2]) (by omega) (by omega)
        · refine Ev.ite_neg c2 ?_
          by_cases c3 : (rdE l i).f1 = a
          · refine Ev.ite_pos c3 ?_
            rw [w64 (by omega) (by omega)]
            exact hres (-(rdE l i).f3) (by unfold eff; rw [if_neg c1, if_neg c2, if_pos c3]) (by omega) (by omega)
          · refine Ev.ite_neg c3 ?_
            have := hres 0 (by unfold eff; rw [if_neg c1, if_neg c2, if_neg c3]) (by omega) (by omega)
            simpa using this
theorem balance_ok (l : List S35) (a d : Int) (h : checkV l = 0) (h0 : 0 ≤ a) (h1 : a < 100) : Ev (fun k => ledger_Balance.f k l a d) (bal a d l, 0) := by
  obtain ⟨hn, ha⟩ := check_all h
  unfold ledger_Balance.f
  have hc := check_ok l
  rw [h] at hc
  refine Ev.bind hc (Ev.ite_pos rfl (Ev.ite_neg (by omega) ?_))
  apply Ev.step
  · intro k; rw [ledger_Balance.j0]
  · refine Ev.ite_neg (by simp; omega) ?_
    have e := balance_l0 l hn (fun x hx => by have := one_day x (ha x hx); omega) a d l.length 0 0 (by omega) (by omega) (by omega)
    simpa using e
end Go.Proofs.Ytenhnlclnjnboaa.Pure
