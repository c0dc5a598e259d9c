/- Plain lemmas, picked by pick.py out of this seat's other plain texts. -/
import Derived.Test.YtenhnlclnjnboaaPTelx0
import Derived.Test.YtenhnlclnjnboaaPTelx3
import Derived.Test.YtenhnlclnjnboaaPTelx4
import Derived.Test.YtenhnlclnjnboaaPTelx5
import Derived.Test.YtenhnlclnjnboaaPTelx6
import Derived.Test.YtenhnlclnjnboaaPTelx10
import Derived.Test.YtenhnlclnjnboaaPTelx11
import Derived.Test.YtenhnlclnjnboaaPTelx12
import Derived.Test.YtenhnlclnjnboaaPTelx14
namespace Go.Proofs.Ytenhnlclnjnboaa.Pure
open Go.RowKit Go.Proofs.Ytenhnlclnjnboaa.PTel Go.Proofs.YtenhnlclnjnboaaW.PrintWords Go.Proofs.YtenhnlclnjnboaaW.PrintLast
set_option linter.unusedVariables false
set_option linter.unusedSimpArgs false

theorem w64 {a : Int} (h0 : -9223372036854775808 ≤ a) (h1 : a ≤ 9223372036854775807) : wrap64 a = a := by unfold wrap64; omega
theorem Ev.ite_pos {α : Type} {c : Prop} [Decidable c] {f g : Nat → Option α} {r : α} (hc : c) (h : Ev f r) : Ev (fun k => if c then f k else g k) r := Ev.congr (fun _ => if_pos hc) h
theorem Ev.ite_neg {α : Type} {c : Prop} [Decidable c] {f g : Nat → Option α} {r : α} (hc : ¬ c) (h : Ev g r) : Ev (fun k => if c then f k else g k) r := Ev.congr (fun _ => if_neg hc) h
theorem Ev.some_ {α : Type} {r r' : α} (h : r = r') : Ev (fun _ => some r) r' := h ▸ Ev.now r
theorem Ev.res {α : Type} {g : Nat → Option α} {r r' : α} (e : r' = r) (h : Ev g r) : Ev g r' := e ▸ h
theorem drop_cons {α : Type} (l : List α) (z : α) (i : Nat) (h : i < l.length) : l.drop i = l.getD i z :: l.drop (i + 1) := by
  rw [List.drop_eq_getElem_cons h]; simp [List.getD_eq_getElem?_getD, h]
theorem wf_bd {x : Int} (h : (Lit.int .i64 x).wf = true) : -9223372036854775808 ≤ x ∧ x ≤ 9223372036854775807 := by
  simpa [Lit.wf, IntKind.min, IntKind.max, IntKind.signed, IntKind.bits] using h
def oneV (e : S35) : Int :=
  if e.f0 < 0 ∨ e.f0 > 1048575 ∨ min e.f1 e.f2 < 0 ∨ max e.f1 e.f2 ≥ 100 then 1 else if e.f1 = e.f2 then 3 else if e.f3 < 1 ∨ e.f3 > 1099511627776 then 2 else 0
def chk (p : Int) : List S35 → Int
  | [] => 0
  | e :: es => if oneV e = 0 then (if p > e.f0 then 9 else chk e.f0 es) else oneV e
def checkV (l : List S35) : Int := if l.length > 2000 then 6 else chk 0 l
theorem mx_eq (a b : Int) : mx a b = max a b := by unfold mx; split <;> omega
theorem mn_eq (a b : Int) : mn a b = min a b := by unfold mn; split <;> omega
theorem one_ok (e : S35) : Ev (fun k => ledger_one.f k e.f0 e.f1 e.f2 e.f3) (oneV e) := by
  have j : ∀ b : Bool, Ev (fun k => ledger_one.j0 k b e.f0 e.f1 e.f2 e.f3) (if b = true then 1 else if e.f1 = e.f2 then 3 else if e.f3 < 1 ∨ e.f3 > 1099511627776 then 2 else 0) := by
    intro b
    apply Ev.step
    · intro k; rw [ledger_one.j0]
    · by_cases c : b = true
      · exact Ev.res (if_pos c) (Ev.ite_pos c (Ev.now _))
      · refine Ev.res (if_neg c) (Ev.ite_neg c ?_)
        by_cases c2 : e.f1 = e.f2
        · exact Ev.res (if_pos c2) (Ev.ite_pos c2 (Ev.now _))
        · refine Ev.res (if_neg c2) (Ev.ite_neg c2 ?_)
          by_cases c3 : e.f3 < 1
          · exact Ev.res (if_pos (Or.inl c3)) (Ev.ite_pos c3 (Ev.now _))
          · refine Ev.ite_neg c3 ?_
            by_cases c4 : e.f3 > 1099511627776
            · exact Ev.res (if_pos (Or.inr c4)) (Ev.ite_pos c4 (Ev.now _))
            · exact Ev.res (if_neg (by omega)) (Ev.ite_neg c4 (Ev.now _))
  unfold ledger_one.f oneV
  rw [mn_eq, mx_eq]
  by_cases c1 : e.f0 < 0
  · exact Ev.res (if_pos (by omega)) (Ev.ite_pos c1 (j true))
  · refine Ev.ite_neg c1 ?_
    by_cases c2 : e.f0 > 1048575
    · exact Ev.res (if_pos (by omega)) (Ev.ite_pos c2 (j true))
    · refine Ev.ite_neg c2 ?_
      by_cases c3 : min e.f1 e.f2 < 0
      · exact Ev.res (if_pos (by omega)) (Ev.ite_pos c3 (j true))
      · refine Ev.ite_neg c3 ?_
        by_cases c4 : max e.f1 e.f2 ≥ 100
        · refine Ev.res (if_pos (by omega)) ?_
          rw [decide_eq_true c4]; exact j true
        · refine Ev.res (if_neg (by omega)) ?_
          rw [decide_eq_false c4]; exact j false
def rdE (l : List S35) (i : Nat) : S35 := l.getD i z35
theorem rd_nat (l : List S35) (i : Nat) : rd_T35 l (i : Int) = rdE l i := rfl
theorem one_day (e : S35) (h : oneV e = 0) : 0 ≤ e.f0 ∧ e.f0 ≤ 1048575 ∧ 0 ≤ e.f1 ∧ 0 ≤ e.f2 ∧ e.f1 ≤ 99 ∧ e.f2 ≤ 99 ∧ e.f1 ≠ e.f2 ∧ 1 ≤ e.f3 ∧ e.f3 ≤ 1099511627776 := by
  unfold oneV at h
  split at h
  · omega
  · split at h
    · omega
    · split at h
      · omega
      · omega
theorem check_l0 (l : List S35) (hn : l.length ≤ 2000) : ∀ (n i : Nat), i + n = l.length → Ev (fun k => ledger_Check.l0 k l l (l.length : Int) (i : Int)) (chk (if i = 0 then 0 else (rdE l (i - 1)).f0) (l.drop i)) := by
  intro n
  induction n with
  | zero =>
    intro i h
    rw [List.drop_of_length_le (by omega)]
    apply Ev.step
    · intro k; rw [ledger_Check.l0]
    · exact Ev.ite_neg (by omega) (Ev.now _)
  | succ n ih =>
    intro i h
    have e := ih (i + 1) (by omega)
    rw [drop_cons l z35 i (by omega), chk]
    apply Ev.step
    · intro k; rw [ledger_Check.l0]
    · refine Ev.ite_pos (by omega) (Ev.ite_pos (by omega) (Ev.ite_pos (by omega) ?_))
      rw [rd_nat]
      refine Ev.bind (one_ok (rdE l i)) ?_
      rw [show wrap64 ((i : Int) + 1) = ((i + 1 : Nat) : Int) by rw [w64 (by omega) (by omega)]; omega]
      by_cases c : oneV (rdE l i) = 0
      · refine Ev.res (if_pos c) (Ev.ite_pos c ?_)
        have hd := (one_day _ c).1
        rw [if_neg (by omega)] at e
        simp only [Nat.add_sub_cancel] at e
        by_cases c0 : i = 0
        · refine Ev.ite_neg (by omega) ?_
          refine Ev.res (if_neg ?_) e
          rw [if_pos c0]; show ¬ 0 > (rdE l i).f0; omega
        · rw [w64 (a := (i : Int) - 1) (by omega) (by omega)]
          refine Ev.ite_pos (by omega) (Ev.ite_pos (by omega) (Ev.ite_pos (by omega) ?_))
          rw [show (i : Int) - 1 = ((i - 1 : Nat) : Int) by omega, rd_nat]
          rw [if_neg c0]
          by_cases cp : (rdE l (i - 1)).f0 > (rdE l i).f0
          · exact Ev.res (if_pos cp) (Ev.ite_pos cp (Ev.now _))
          · exact Ev.res (if_neg cp) (Ev.ite_neg cp e)
      · exact Ev.res (if_neg c) (Ev.ite_neg c (Ev.now _))
theorem check_ok (l : List S35) : Ev (fun k => ledger_Check.f k l) (checkV l) := by
  unfold ledger_Check.f checkV
  by_cases c : l.length > 2000
  · exact Ev.res (if_pos c) (Ev.ite_pos (by omega) (Ev.now _))
  · refine Ev.res (if_neg c) (Ev.ite_neg (by omega) ?_)
    have e := check_l0 l (by omega) l.length 0 (by omega)
    simpa using e
theorem chk_all (l : List S35) : ∀ p, chk p l = 0 → ∀ e ∈ l, oneV e = 0 := by
  induction l with
  | nil => intro p _ e he; simp at he
  | cons x xs ih =>
    intro p h e he
    rw [chk] at h
    split at h
    · split at h
      · omega
      · rcases List.mem_cons.1 he with rfl | he
        · assumption
        · exact ih _ h e he
    · exact absurd h (by assumption)
theorem check_all {l : List S35} (h : checkV l = 0) : l.length ≤ 2000 ∧ ∀ e ∈ l, oneV e = 0 := by
  unfold checkV at h
  split at h
  · omega
  · exact ⟨by omega, chk_all l 0 h⟩
def eff (a d : Int) (e : S35) : Int := if e.f0 > d then 0 else if e.f2 = a then e.f3 else if e.f1 = a then -e.f3 else 0
def bal (a d : Int) : List S35 → Int
  | [] => 0
  | e :: es => eff a d e + bal a d es
theorem eff_bd (a d : Int) (e : S35) (B : Int) (h : 0 ≤ e.f3 ∧ e.f3 ≤ B) : -B ≤ eff a d e ∧ eff a d e ≤ B := by
  unfold eff; (split; omega; split; omega; split <;> omega)
theorem bal_bd (a d B : Int) (l : List S35) (h : ∀ e ∈ l, 0 ≤ e.f3 ∧ e.f3 ≤ B) : -(B * l.length) ≤ bal a d l ∧ bal a d l ≤ B * l.length := by
  induction l with
  | nil => simp [bal]
  | cons e es ih =>
    have h1 := eff_bd a d e B (h e (by simp))
    have h2 := ih (fun x hx => h x (by simp [hx]))
    simp only [bal, List.length_cons]
    have : B * ((es.length + 1 : Nat) : Int) = B * es.length + B := by rw [Int.natCast_add, Int.mul_add]; simp
    omega
theorem balance_l0 (l : List S35) (hn : l.length ≤ 2000) (hl : ∀ e ∈ l, 0 ≤ e.f3 ∧ e.f3 ≤ 1099511627776) (a d : Int) : ∀ (n i : Nat) (x : Int), i + n = l.length → -(1099511627776 * i) ≤ x → x ≤ 1099511627776 * i →
    Ev (fun k => ledger_Balance.l0 k a d x l (l.length : Int) (i : Int)) (x + bal a d (l.drop i), 0) := by
  intro n
  induction n with
  | zero =>
    intro i x h h1 h2
    rw [List.drop_of_length_le (by omega)]
    apply Ev.step
    · intro k; rw [ledger_Balance.l0]
    · exact Ev.ite_neg (by omega) (Ev.some_ (by simp [bal]))
  | succ n ih =>
    intro i x h h1 h2
    have hm : rdE l i ∈ l := by
      have : rdE l i = l[i]'(by omega) := by simp [rdE, List.getD_eq_getElem?_getD, show i < l.length by omega]
      rw [this]; exact List.getElem_mem _
    obtain ⟨b1, b2⟩ := hl _ hm
    have hw : wrap64 ((i : Int) + 1) = ((i + 1 : Nat) : Int) := by rw [w64 (by omega) (by omega)]; omega
    rw [drop_cons l z35 i (by omega), bal]
    apply Ev.step
    · intro k; rw [ledger_Balance.l0]
    · refine Ev.ite_pos (by omega) (Ev.ite_pos (by omega) (Ev.ite_pos (by omega) ?_))
      simp only [rd_nat]
      rw [hw]
      have hres : ∀ y : Int, y = eff a d (rdE l i) → -(1099511627776 * ((i + 1 : Nat) : Int)) ≤ x + y → x + y ≤ 1099511627776 * ((i + 1 : Nat) : Int) → Ev (fun k => ledger_Balance.l0 k a d (x + y) l (l.length : Int) ((i + 1 : Nat) : Int)) (x + (eff a d (l.getD i z35) + bal a d (l.drop (i + 1))), 0) := by
        intro y hy h3 h4
        have e := ih (i + 1) (x + y) (by omega) h3 h4
        refine Ev.res ?_ e
        rw [hy]; show (x + (eff a d (rdE l i) + bal a d (l.drop (i + 1))), (0 : Int)) = _
        rw [Int.add_assoc]
      by_cases c1 : (rdE l i).f0 > d
      · refine Ev.ite_pos c1 ?_
        have := hres 0 (by unfold eff; rw [if_pos c1]) (by omega) (by omega)
        simpa using this
      · refine Ev.ite_neg c1 ?_
        by_cases c2 : (rdE l i).f2 = a
        · refine Ev.ite_pos c2 ?_
          rw [w64 (by omega) (by omega)]
          exact hres _ (by unfold eff; rw [if_neg c1, if_pos c2]) (by omega) (by omega)
        · refine Ev.ite_neg c2 ?_
          by_cases c3 : (rdE l i).f1 = a
          · refine Ev.ite_pos c3 ?_
            rw [w64 (by omega) (by omega)]
            exact hres (-(rdE l i).f3) (by unfold eff; rw [if_neg c1, if_neg c2, if_pos c3]) (by omega) (by omega)
          · refine Ev.ite_neg c3 ?_
            have := hres 0 (by unfold eff; rw [if_neg c1, if_neg c2, if_neg c3]) (by omega) (by omega)
            simpa using this
theorem balance_ok (l : List S35) (a d : Int) (h : checkV l = 0) (h0 : 0 ≤ a) (h1 : a < 100) : Ev (fun k => ledger_Balance.f k l a d) (bal a d l, 0) := by
  obtain ⟨hn, ha⟩ := check_all h
  unfold ledger_Balance.f
  have hc := check_ok l
  rw [h] at hc
  refine Ev.bind hc (Ev.ite_pos rfl (Ev.ite_neg (by omega) ?_))
  apply Ev.step
  · intro k; rw [ledger_Balance.j0]
  · refine Ev.ite_neg (by simp; omega) ?_
    have e := balance_l0 l hn (fun x hx => by have := one_day x (ha x hx); omega) a d l.length 0 0 (by omega) (by omega) (by omega)
    simpa using e
theorem fault1_ok (e : S35) : Ev (fun k => mootlaw4_entryFault.f k e.f0 e.f1 e.f2 e.f3) (oneV e) := by
  have j : ∀ b : Bool, Ev (fun k => mootlaw4_entryFault.j0 k b e.f0 e.f1 e.f2 e.f3) (if b = true then 1 else if e.f1 = e.f2 then 3 else if e.f3 < 1 ∨ e.f3 > 1099511627776 then 2 else 0) := by
    intro b
    apply Ev.step
    · intro k; rw [mootlaw4_entryFault.j0]
    · by_cases c : b = true
      · exact Ev.res (if_pos c) (Ev.ite_pos c (Ev.now _))
      · refine Ev.res (if_neg c) (Ev.ite_neg c ?_)
        by_cases c2 : e.f1 = e.f2
        · exact Ev.res (if_pos c2) (Ev.ite_pos c2 (Ev.now _))
        · refine Ev.res (if_neg c2) (Ev.ite_neg c2 ?_)
          by_cases c3 : e.f3 ≤ 0
          · exact Ev.res (if_pos (Or.inl (by omega))) (Ev.ite_pos c3 (Ev.now _))
          · refine Ev.ite_neg c3 ?_
            by_cases c4 : e.f3 > 1099511627776
            · exact Ev.res (if_pos (Or.inr c4)) (Ev.ite_pos c4 (Ev.now _))
            · exact Ev.res (if_neg (by omega)) (Ev.ite_neg c4 (Ev.now _))
  unfold mootlaw4_entryFault.f oneV
  by_cases c1 : e.f0 < 0
  · exact Ev.res (if_pos (by omega)) (Ev.ite_pos c1 (j true))
  · refine Ev.ite_neg c1 ?_
    by_cases c2 : e.f0 > 1048575
    · exact Ev.res (if_pos (by omega)) (Ev.ite_pos c2 (j true))
    · refine Ev.ite_neg c2 ?_
      by_cases c3 : e.f1 < 0
      · exact Ev.res (if_pos (by omega)) (Ev.ite_pos c3 (j true))
      · refine Ev.ite_neg c3 ?_
        by_cases c4 : e.f2 < 0
        · exact Ev.res (if_pos (by omega)) (Ev.ite_pos c4 (j true))
        · refine Ev.ite_neg c4 ?_
          by_cases c5 : e.f1 > 99
          · exact Ev.res (if_pos (by omega)) (Ev.ite_pos c5 (j true))
          · refine Ev.ite_neg c5 ?_
            by_cases c6 : e.f2 > 99
            · refine Ev.res (if_pos (by omega)) ?_
              rw [decide_eq_true c6]; exact j true
            · refine Ev.res (if_neg (by omega)) ?_
              rw [decide_eq_false c6]; exact j false
theorem fault_l0 (l : List S35) (hn : l.length ≤ 2000) : ∀ (n i : Nat) (p : Int), i + n = l.length → Ev (fun k => mootlaw4_ledgerFault.l0 k p l (l.length : Int) (i : Int)) (chk p (l.drop i)) := by
  intro n
  induction n with
  | zero =>
    intro i p h
    rw [List.drop_of_length_le (by omega)]
    apply Ev.step
    · intro k; rw [mootlaw4_ledgerFault.l0]
    · exact Ev.ite_neg (by omega) (Ev.now _)
  | succ n ih =>
    intro i p h
    have e := ih (i + 1) (rdE l i).f0 (by omega)
    rw [drop_cons l z35 i (by omega), chk]
    apply Ev.step
    · intro k; rw [mootlaw4_ledgerFault.l0]
    · refine Ev.ite_pos (by omega) (Ev.ite_pos (by omega) (Ev.ite_pos (by omega) ?_))
      rw [rd_nat]
      refine Ev.bind (fault1_ok (rdE l i)) ?_
      rw [show wrap64 ((i : Int) + 1) = ((i + 1 : Nat) : Int) by rw [w64 (by omega) (by omega)]; omega]
      by_cases c : oneV (rdE l i) = 0
      · refine Ev.res (if_pos c) (Ev.ite_pos c ?_)
        by_cases cp : (rdE l i).f0 < p
        · exact Ev.res (if_pos cp) (Ev.ite_pos cp (Ev.now _))
        · exact Ev.res (if_neg cp) (Ev.ite_neg cp e)
      · exact Ev.res (if_neg c) (Ev.ite_neg c (Ev.now _))
theorem fault_ok (l : List S35) : Ev (fun k => mootlaw4_ledgerFault.f k l) (checkV l) := by
  unfold mootlaw4_ledgerFault.f checkV
  by_cases c : l.length > 2000
  · exact Ev.res (if_pos c) (Ev.ite_pos (by omega) (Ev.now _))
  · refine Ev.res (if_neg c) (Ev.ite_neg (by omega) ?_)
    simpa using fault_l0 l (by omega) l.length 0 0 (by omega)
theorem equal_l0 (l : List S35) (hn : l.length ≤ 4398046511104) : ∀ (n i : Nat), i + n = l.length → Ev (fun k => ledger_Entry_24.l0 k l l (l.length : Int) (i : Int)) true := by
  intro n
  induction n with
  | zero =>
    intro i h
    apply Ev.step
    · intro k; rw [ledger_Entry_24.l0]
    · exact Ev.ite_neg (by omega) (Ev.now _)
  | succ n ih =>
    intro i h
    have e := ih (i + 1) (by omega)
    apply Ev.step
    · intro k; rw [ledger_Entry_24.l0]
    · refine Ev.ite_pos (by omega) (Ev.ite_pos (by omega) (Ev.ite_pos (by omega) (Ev.ite_pos (by omega) (Ev.ite_neg (by simp) ?_))))
      rw [show wrap64 ((i : Int) + 1) = ((i + 1 : Nat) : Int) by rw [w64 (by omega) (by omega)]; omega]
      exact e
theorem equal_ok (l : List S35) (hn : l.length ≤ 4398046511104) : Ev (fun k => ledger_Entry_24.f k l l) true := by
  unfold ledger_Entry_24.f
  exact Ev.ite_pos rfl (equal_l0 l hn l.length 0 (by omega))
theorem posts_ok : Ev (fun k => mootlaw4_posts.f k) true := Ev.of (mootlaw4_posts.mono) (k := 20) (by decide +kernel)
def effIn (a f t : Int) (e : S35) : Int := if e.f0 < f ∨ e.f0 ≥ t then 0 else if e.f2 = a then e.f3 else 0
def effOut (a f t : Int) (e : S35) : Int := if e.f0 < f ∨ e.f0 ≥ t then 0 else if e.f2 = a then 0 else if e.f1 = a then e.f3 else 0
def tin (a f t : Int) : List S35 → Int
  | [] => 0
  | e :: es => effIn a f t e + tin a f t es
def tout (a f t : Int) : List S35 → Int
  | [] => 0
  | e :: es => effOut a f t e + tout a f t es
theorem turnover_l0 (l : List S35) (hn : l.length ≤ 2000) (hl : ∀ e ∈ l, 0 ≤ e.f3 ∧ e.f3 ≤ 1099511627776) (a f t : Int) : ∀ (n i : Nat) (x y : Int), i + n = l.length → 0 ≤ x → x ≤ 1099511627776 * i → 0 ≤ y → y ≤ 1099511627776 * i →
    Ev (fun k => ledger_Turnover.l0 k a f t x y l (l.length : Int) (i : Int)) (x + tin a f t (l.drop i), y + tout a f t (l.drop i), 0) := by
  intro n
  induction n with
  | zero =>
    intro i x y h h1 h2 h3 h4
    rw [List.drop_of_length_le (by omega)]
    apply Ev.step
    · intro k; rw [ledger_Turnover.l0]
    · exact Ev.ite_neg (by omega) (Ev.some_ (by simp [tin, tout]))
  | succ n ih =>
    intro i x y h h1 h2 h3 h4
    have hm : rdE l i ∈ l := by
      have : rdE l i = l[i]'(by omega) := by simp [rdE, List.getD_eq_getElem?_getD, show i < l.length by omega]
      rw [this]; exact List.getElem_mem _
    obtain ⟨b1, b2⟩ := hl _ hm
    have hw : wrap64 ((i : Int) + 1) = ((i + 1 : Nat) : Int) := by rw [w64 (by omega) (by omega)]; omega
    rw [drop_cons l z35 i (by omega), tin, tout]
    have j2 : ∀ b : Bool, b = decide ((rdE l i).f0 < f ∨ (rdE l i).f0 ≥ t) → Ev (fun k => ledger_Turnover.j2 k a f t x y l (l.length : Int) (i : Int) b (rdE l i).f0 (rdE l i).f1 (rdE l i).f2 (rdE l i).f3)
        (x + (effIn a f t (rdE l i) + tin a f t (l.drop (i + 1))), y + (effOut a f t (rdE l i) + tout a f t (l.drop (i + 1))), 0) := by
      intro b hb
      apply Ev.step
      · intro k; rw [ledger_Turnover.j2]
      · rw [hw]
        by_cases c : (rdE l i).f0 < f ∨ (rdE l i).f0 ≥ t
        · refine Ev.ite_pos (by rw [hb]; exact decide_eq_true c) (Ev.res ?_ (ih (i + 1) x y (by omega) (by omega) (by omega) (by omega) (by omega)))
          unfold effIn effOut; rw [if_pos c, if_pos c]; simp
        · refine Ev.ite_neg (by rw [hb, decide_eq_false c]; decide) ?_
          by_cases c2 : (rdE l i).f2 = a
          · refine Ev.ite_pos c2 ?_
            rw [w64 (by omega) (by omega)]
            refine Ev.res ?_ (ih (i + 1) (x + (rdE l i).f3) y (by omega) (by omega) (by omega) (by omega) (by omega))
            unfold effIn effOut; rw [if_neg c, if_neg c, if_pos c2, if_pos c2]; simp [Int.add_assoc]
          · refine Ev.ite_neg c2 ?_
            by_cases c3 : (rdE l i).f1 = a
            · refine Ev.ite_pos c3 ?_
              rw [w64 (by omega) (by omega)]
              refine Ev.res ?_ (ih (i + 1) x (y + (rdE l i).f3) (by omega) (by omega) (by omega) (by omega) (by omega))
              unfold effIn effOut; rw [if_neg c, if_neg c, if_neg c2, if_neg c2, if_pos c3]; simp [Int.add_assoc]
            · refine Ev.ite_neg c3 (Ev.res ?_ (ih (i + 1) x y (by omega) (by omega) (by omega) (by omega) (by omega)))
              unfold effIn effOut; rw [if_neg c, if_neg c, if_neg c2, if_neg c2, if_neg c3]; simp
    apply Ev.step
    · intro k; rw [ledger_Turnover.l0]
    · refine Ev.ite_pos (by omega) (Ev.ite_pos (by omega) (Ev.ite_pos (by omega) ?_))
      simp only [rd_nat]
      by_cases c : (rdE l i).f0 < f
      · exact Ev.ite_pos c (j2 true (decide_eq_true (Or.inl c)).symm)
      · refine Ev.ite_neg c (j2 (decide ((rdE l i).f0 ≥ t)) ?_)
        by_cases h9 : (rdE l i).f0 ≥ t
        · rw [decide_eq_true h9, decide_eq_true (Or.inr h9)]
        · rw [decide_eq_false h9, decide_eq_false (fun z => z.elim c h9)]
theorem turnover_ok (l : List S35) (a f t : Int) (h : checkV l = 0) (h0 : 0 ≤ a) (h1 : a < 100) : Ev (fun k => ledger_Turnover.f k l a f t) (tin a f t l, tout a f t l, 0) := by
  obtain ⟨hn, ha⟩ := check_all h
  unfold ledger_Turnover.f
  have hc := check_ok l
  rw [h] at hc
  refine Ev.bind hc (Ev.ite_pos rfl (Ev.ite_neg (by omega) ?_))
  apply Ev.step
  · intro k; rw [ledger_Turnover.j0]
  · refine Ev.ite_neg (by simp; omega) ?_
    have e := turnover_l0 l hn (fun x hx => by have := one_day x (ha x hx); omega) a f t l.length 0 0 0 (by omega) (by omega) (by omega) (by omega) (by omega)
    simpa using e
theorem tin_bd (a f t B : Int) (l : List S35) (h : ∀ e ∈ l, 0 ≤ e.f3 ∧ e.f3 ≤ B) : 0 ≤ tin a f t l ∧ tin a f t l ≤ B * l.length ∧ 0 ≤ tout a f t l ∧ tout a f t l ≤ B * l.length := by
  induction l with
  | nil => simp [tin, tout]
  | cons e es ih =>
    have h0 := h e (by simp)
    have h2 := ih (fun x hx => h x (by simp [hx]))
    simp only [tin, tout, List.length_cons]
    have : B * ((es.length + 1 : Nat) : Int) = B * es.length + B := by rw [Int.natCast_add, Int.mul_add]; simp
    have h3 : 0 ≤ effIn a f t e ∧ effIn a f t e ≤ B := by unfold effIn; (split; omega; split <;> omega)
    have h4 : 0 ≤ effOut a f t e ∧ effOut a f t e ≤ B := by unfold effOut; (split; omega; split; omega; split <;> omega)
    omega
theorem take_snoc (l : List S35) (i : Nat) (h : i < l.length) : l.take (i + 1) = l.take i ++ [rdE l i] := by
  rw [List.take_succ_eq_append_getElem h]; simp [rdE, List.getD_eq_getElem?_getD, h]
end Go.Proofs.Ytenhnlclnjnboaa.Pure
