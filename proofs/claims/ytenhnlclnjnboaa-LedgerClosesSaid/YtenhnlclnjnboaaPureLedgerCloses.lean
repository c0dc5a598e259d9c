/- Accounts are closed as by the second implementation: for every ledger, every list of accounts and every day. -/
import Derived.Test.YtenhnlclnjnboaaPAllx0
import Derived.Test.YtenhnlclnjnboaaPAllx6
import Derived.Test.YtenhnlclnjnboaaPAllx14
import Derived.Test.YtenhnlclnjnboaaPAllx15
import Derived.Test.YtenhnlclnjnboaaPAllx19
import Derived.Test.YtenhnlclnjnboaaPAllx20
import Derived.Test.YtenhnlclnjnboaaPAllx21
import Derived.Test.YtenhnlclnjnboaaPAllx22
import Derived.Test.YtenhnlclnjnboaaPAllx23
import Derived.Test.YtenhnlclnjnboaaPAllx24
import Derived.Test.YtenhnlclnjnboaaPAllx25
import Derived.Test.YtenhnlclnjnboaaPAllx26
import Derived.Test.YtenhnlclnjnboaaLemD
namespace Go.Proofs.Ytenhnlclnjnboaa.Pure
open Go.RowKit Go.Proofs.Ytenhnlclnjnboaa.PAll Go.Proofs.YtenhnlclnjnboaaW.PrintWords Go.Proofs.YtenhnlclnjnboaaW.PrintLast
set_option linter.unusedVariables false
set_option linter.unusedSimpArgs false

theorem fault1_ok (e : S35) : Ev (fun k => mootlaw4_entryFault.f k e.f0 e.f1 e.f2 e.f3) (oneV e) := by
  have j : ∀ b : Bool, Ev (fun k => mootlaw4_entryFault.j0 k b e.f0 e.f1 e.f2 e.f3) (if b = true then 1 else if e.f1 = e.f2 then 3 else if e.f3 < 1 ∨ e.f3 > 1099511627776 then 2 else 0) := by
    intro b
    apply Ev.step
    · intro k; rw [mootlaw4_entryFault.j0]
    · by_cases c : b = true
      · exact Ev.res (if_pos c) (Ev.ite_pos c (Ev.now _))
      · refine Ev.res (if_neg c) (Ev.ite_neg c ?_)
        by_cases c2 : e.f1 = e.f2
        · exact Ev.res (if_pos c2) (Ev.ite_pos c2 (Ev.now _))
        · refine Ev.res (if_neg c2) (Ev.ite_neg c2 ?_)
          by_cases c3 : e.f3 ≤ 0
          · exact Ev.res (if_pos (Or.inl (by omega))) (Ev.ite_pos c3 (Ev.now _))
          · refine Ev.ite_neg c3 ?_
            by_cases c4 : e.f3 > 1099511627776
            · exact Ev.res (if_pos (Or.inr c4)) (Ev.ite_pos c4 (Ev.now _))
            · exact Ev.res (if_neg (by omega)) (Ev.ite_neg c4 (Ev.now _))
  unfold mootlaw4_entryFault.f oneV
  by_cases c1 : e.f0 < 0
  · exact Ev.res (if_pos (by omega)) (Ev.ite_pos c1 (j true))
  · refine Ev.ite_neg c1 ?_
    by_cases c2 : e.f0 > 1048575
    · exact Ev.res (if_pos (by omega)) (Ev.ite_pos c2 (j true))
    · refine Ev.ite_neg c2 ?_
      by_cases c3 : e.f1 < 0
      · exact Ev.res (if_pos (by omega)) (Ev.ite_pos c3 (j true))
      · refine Ev.ite_neg c3 ?_
        by_cases c4 : e.f2 < 0
        · exact Ev.res (if_pos (by omega)) (Ev.ite_pos c4 (j true))
        · refine Ev.ite_neg c4 ?_
          by_cases c5 : e.f1 > 99
          · exact Ev.res (if_pos (by omega)) (Ev.ite_pos c5 (j true))
          · refine Ev.ite_neg c5 ?_
            by_cases c6 : e.f2 > 99
            · refine Ev.res (if_pos (by omega)) ?_
              rw [decide_eq_true c6]; exact j true
            · refine Ev.res (if_neg (by omega)) ?_
              rw [decide_eq_false c6]; exact j false
theorem fault_l0 (l : List S35) (hn : l.length ≤ 2000) : ∀ (n i : Nat) (p : Int), i + n = l.length → Ev (fun k => mootlaw4_ledgerFault.l0 k p l (l.length : Int) (i : Int)) (chk p (l.drop i)) := by
  intro n
  induction n with
  | zero =>
    intro i p h
    rw [List.drop_of_length_le (by omega)]
    apply Ev.step
    · intro k; rw [mootlaw4_ledgerFault.l0]
    · exact Ev.ite_neg (by omega) (Ev.now _)
  | succ n ih =>
    intro i p h
    have e := ih (i + 1) (rdE l i).f0 (by omega)
    rw [drop_cons l z35 i (by omega), chk]
    apply Ev.step
    · intro k; rw [mootlaw4_ledgerFault.l0]
    · refine Ev.ite_pos (by omega) (Ev.ite_pos (by omega) (Ev.ite_pos (by omega) ?_))
      rw [rd_nat]
      refine Ev.bind (fault1_ok (rdE l i)) ?_
      rw [show wrap64 ((i : Int) + 1) = ((i + 1 : Nat) : Int) by rw [w64 (by omega) (by omega)]; omega]
      by_cases c : oneV (rdE l i) = 0
      · refine Ev.res (if_pos c) (Ev.ite_pos c ?_)
        by_cases cp : (rdE l i).f0 < p
        · exact Ev.res (if_pos cp) (Ev.ite_pos cp (Ev.now _))
        · exact Ev.res (if_neg cp) (Ev.ite_neg cp e)
      · exact Ev.res (if_neg c) (Ev.ite_neg c (Ev.now _))
theorem fault_ok (l : List S35) : Ev (fun k => mootlaw4_ledgerFault.f k l) (checkV l) := by
  unfold mootlaw4_ledgerFault.f checkV
  by_cases c : l.length > 2000
  · exact Ev.res (if_pos c) (Ev.ite_pos (by omega) (Ev.now _))
  · refine Ev.res (if_neg c) (Ev.ite_neg (by omega) ?_)
    simpa using fault_l0 l (by omega) l.length 0 0 (by omega)
theorem equal_l0 (l : List S35) (hn : l.length ≤ 4398046511104) : ∀ (n i : Nat), i + n = l.length → Ev (fun k => ledger_Entry_24.l0 k l l (l.length : Int) (i : Int)) true := by
  intro n
  induction n with
  | zero =>
    intro i h
    apply Ev.step
    · intro k; rw [ledger_Entry_24.l0]
    · exact Ev.ite_neg (by omega) (Ev.now _)
  | succ n ih =>
    intro i h
    have e := ih (i + 1) (by omega)
    apply Ev.step
    · intro k; rw [ledger_Entry_24.l0]
    · refine Ev.ite_pos (by omega) (Ev.ite_pos (by omega) (Ev.ite_pos (by omega) (Ev.ite_pos (by omega) (Ev.ite_neg (by simp) ?_))))
      rw [show wrap64 ((i : Int) + 1) = ((i + 1 : Nat) : Int) by rw [w64 (by omega) (by omega)]; omega]
      exact e
theorem equal_ok (l : List S35) (hn : l.length ≤ 4398046511104) : Ev (fun k => ledger_Entry_24.f k l l) true := by
  unfold ledger_Entry_24.f
  exact Ev.ite_pos rfl (equal_l0 l hn l.length 0 (by omega))
/-- What comes to an account, and what leaves it. -/
def cin (a : Int) : List S35 → Int
  | [] => 0
  | e :: es => (if e.f2 = a then e.f3 else 0) + cin a es
def cout (a : Int) : List S35 → Int
  | [] => 0
  | e :: es => (if e.f1 = a then e.f3 else 0) + cout a es
theorem cin_append (a : Int) (l m : List S35) : cin a (l ++ m) = cin a l + cin a m := by
  induction l with
  | nil => simp [cin]
  | cons e es ih => simp only [List.cons_append, cin, ih]; omega
theorem cout_append (a : Int) (l m : List S35) : cout a (l ++ m) = cout a l + cout a m := by
  induction l with
  | nil => simp [cout]
  | cons e es ih => simp only [List.cons_append, cout, ih]; omega
theorem cin_bd (a B : Int) (l : List S35) (h : ∀ e ∈ l, 0 ≤ e.f3 ∧ e.f3 ≤ B) : 0 ≤ cin a l ∧ cin a l ≤ B * l.length ∧ 0 ≤ cout a l ∧ cout a l ≤ B * l.length := by
  induction l with
  | nil => simp [cin, cout]
  | cons e es ih =>
    have h0 := h e (by simp)
    have h2 := ih (fun x hx => h x (by simp [hx]))
    simp only [cin, cout, List.length_cons]
    have : B * ((es.length + 1 : Nat) : Int) = B * es.length + B := by rw [Int.natCast_add, Int.mul_add]; simp
    (split <;> split <;> omega)
theorem bal_split (a d : Int) (l : List S35) (h : ∀ e ∈ l, e.f0 ≤ d ∧ e.f1 ≠ e.f2) : bal a d l = cin a l - cout a l := by
  induction l with
  | nil => rfl
  | cons e es ih =>
    have h0 := h e (by simp)
    have h2 := ih (fun x hx => h x (by simp [hx]))
    simp only [bal, cin, cout, h2, eff]
    rw [if_neg (by omega)]
    by_cases c2 : e.f2 = a
    · rw [if_pos c2, if_pos c2, if_neg (show ¬ e.f1 = a by omega)]; omega
    · rw [if_neg c2, if_neg c2]
      by_cases c1 : e.f1 = a
      · rw [if_pos c1, if_pos c1]; omega
      · rw [if_neg c1, if_neg c1]; omega
theorem take_snoc (l : List S35) (i : Nat) (h : i < l.length) : l.take (i + 1) = l.take i ++ [rdE l i] := by
  rw [List.take_succ_eq_append_getElem h]; simp [rdE, List.getD_eq_getElem?_getD, h]
theorem moved_l0 (l : List S35) (hn : l.length ≤ 2000) (hl : ∀ e ∈ l, 0 ≤ e.f3 ∧ e.f3 ≤ 1099511627776) (a : Int) : ∀ (n : Nat) (x y : Int), n ≤ l.length → 0 ≤ x → x ≤ 1099511627776 * (l.length - n) → 0 ≤ y → y ≤ 1099511627776 * (l.length - n) →
    Ev (fun k => mootlaw4_moved.l0 k l a x y ((n : Int) - 1)) (x + cin a (l.take n), y + cout a (l.take n)) := by
  intro n
  induction n with
  | zero =>
    intro x y _ _ _ _ _
    apply Ev.step
    · intro k; rw [mootlaw4_moved.l0]
    · exact Ev.ite_neg (by omega) (Ev.some_ (by simp [cin, cout]))
  | succ n ih =>
    intro x y h h1 h2 h3 h4
    have hm : rdE l n ∈ l := by
      have : rdE l n = l[n]'(by omega) := by simp [rdE, List.getD_eq_getElem?_getD, show n < l.length by omega]
      rw [this]; exact List.getElem_mem _
    obtain ⟨b1, b2⟩ := hl _ hm
    rw [take_snoc l n (by omega), cin_append, cout_append]
    have step : ∀ (x' y' : Int), x' = x + (if (rdE l n).f2 = a then (rdE l n).f3 else 0) → y' = y + (if (rdE l n).f1 = a then (rdE l n).f3 else 0) →
        Ev (fun k => mootlaw4_moved.l0 k l a x' y' ((n : Int) - 1)) (x + (cin a (l.take n) + cin a [rdE l n]), y + (cout a (l.take n) + cout a [rdE l n])) := by
      intro x' y' hx hy
      refine Ev.res ?_ (ih x' y' (by omega) ?_ ?_ ?_ ?_)
      · rw [hx, hy]; simp only [cin, cout]; exact Prod.ext (by simp only; omega) (by simp only; omega)
      · rw [hx]; split <;> omega
      · rw [hx]; split <;> omega
      · rw [hy]; split <;> omega
      · rw [hy]; split <;> omega
    have hw : wrap64 (((n + 1 : Nat) : Int) - 1 - 1) = (n : Int) - 1 := by rw [w64 (by omega) (by omega)]; omega
    have hi : ((n + 1 : Nat) : Int) - 1 = (n : Int) := by omega
    apply Ev.step
    · intro k; rw [mootlaw4_moved.l0]
    · rw [hi]
      refine Ev.ite_pos (by omega) (Ev.ite_pos (by omega) (Ev.ite_pos (by omega) ?_))
      rw [rd_nat]
      simp only [mootlaw4_LedgerCloses_1.f, Option.bind_some]
      refine Ev.ite_pos trivial ?_
      have hw2 : wrap64 ((n : Int) - 1) = (n : Int) - 1 := w64 (by omega) (by omega)
      apply Ev.step
      · intro k; rw [mootlaw4_moved.j1]
      · simp only [rd_nat, mootlaw4_LedgerCloses_1.f, Option.bind_some, hw2]
        by_cases c2 : (rdE l n).f2 = a
        · refine Ev.ite_pos (by simpa using c2) (Ev.ite_pos (by omega) (Ev.ite_pos (by omega) (Ev.ite_pos trivial ?_)))
          rw [w64 (a := x + (rdE l n).f3) (by omega) (by omega)]
          by_cases c1 : (rdE l n).f1 = a
          · refine Ev.ite_pos c1 ?_
            rw [w64 (a := y + (rdE l n).f3) (by omega) (by omega)]
            exact step _ _ (by rw [if_pos c2]) (by rw [if_pos c1])
          · exact Ev.ite_neg c1 (step _ _ (by rw [if_pos c2]) (by rw [if_neg c1]; omega))
        · refine Ev.ite_neg (by simpa using c2) (Ev.ite_pos (by omega) (Ev.ite_pos (by omega) (Ev.ite_pos trivial ?_)))
          by_cases c1 : (rdE l n).f1 = a
          · refine Ev.ite_pos c1 ?_
            rw [w64 (a := y + (rdE l n).f3) (by omega) (by omega)]
            exact step _ _ (by rw [if_neg c2]; omega) (by rw [if_pos c1])
          · exact Ev.ite_neg c1 (step _ _ (by rw [if_neg c2]; omega) (by rw [if_neg c1]; omega))
theorem moved_ok (l : List S35) (hn : l.length ≤ 2000) (hl : ∀ e ∈ l, 0 ≤ e.f3 ∧ e.f3 ≤ 1099511627776) (a : Int) : Ev (fun k => mootlaw4_moved.f k l a) (cin a l, cout a l) := by
  unfold mootlaw4_moved.f
  rw [w64 (by omega) (by omega)]
  have := moved_l0 l hn hl a l.length 0 0 (Nat.le_refl _) (by omega) (by omega) (by omega) (by omega)
  simpa using this
theorem post_any (l : List S35) (a b c d : Int) (h : checkV l = 0) (he : oneV ⟨a, b, c, d⟩ = 0) (hx : ∀ x ∈ l, x.f0 ≤ a) : Ev (fun k => ledger_Post.f k l a b c d) (if l.length < 2000 then (l ++ [(⟨a, b, c, d⟩ : S35)], 0) else ([], 6)) := by
  by_cases z : l.length < 2000
  · rw [if_pos z]; exact post_ok l a b c d h he z hx
  · rw [if_neg z]
    have hl := (check_all h).1
    have e1 : ledger_Entry_18.f l = some l := if_pos (by omega)
    have hc := check_ok (l ++ [(⟨a, b, c, d⟩ : S35)])
    have e2 : checkV (l ++ [(⟨a, b, c, d⟩ : S35)]) = 6 := by unfold checkV; rw [if_pos (by simp; omega)]
    rw [e2] at hc
    unfold ledger_Post.f
    simp only [e1, Option.bind_some]
    exact Ev.ite_pos (by simp; omega) (Ev.bind hc (Ev.ite_neg (by decide) (Ev.now _)))
/-- Once there is an error nothing more changes it. -/
theorem faulty (on f : Int) (hf : f ≠ 0) (L : List S35) (C : List Int) (hC : C.length ≤ 17592186044416) : ∀ (n i : Nat), i + n = C.length → Ev (fun k => mootlaw4_LedgerCloses.l0 k on [] f f L C (C.length : Int) (i : Int)) true := by
  intro n
  induction n with
  | zero =>
    intro i h
    apply Ev.step
    · intro k; rw [mootlaw4_LedgerCloses.l0]
    · exact Ev.ite_neg (by omega) (Ev.ite_neg hf (Ev.ite_pos rfl (Ev.now _)))
  | succ n ih =>
    intro i h
    have e := ih (i + 1) (by omega)
    apply Ev.step
    · intro k; rw [mootlaw4_LedgerCloses.l0]
    · refine Ev.ite_pos (by omega) (Ev.ite_pos (by omega) (Ev.ite_pos (by omega) (Ev.ite_neg hf ?_)))
      rw [show wrap64 ((i : Int) + 1) = ((i + 1 : Nat) : Int) by rw [w64 (by omega) (by omega)]; omega]
      exact e
/-- A valid ledger, all of whose days are past. -/
structure Past (on : Int) (L : List S35) : Prop where
  hc : checkV L = 0
  hd : ∀ e ∈ L, e.f0 ≤ on
theorem Past.snoc {on : Int} {L : List S35} (h : Past on L) (e : S35) (he : oneV e = 0) (h0 : e.f0 = on) (hl : L.length < 2000) : Past on (L ++ [e]) := by
  refine ⟨check_snoc L e h.hc he hl (fun x hx => by rw [h0]; exact h.hd x hx), fun x hx => ?_⟩
  rcases List.mem_append.1 hx with hx | hx
  · exact h.hd x hx
  · rw [List.mem_singleton.1 hx, h0]; exact Int.le_refl _
def Both (on : Int) (C : List Int) (i : Nat) (L : List S35) : Prop :=
  ∃ R : List S35 × Int, Ev (fun k => ledger_Close.l0 k on L C (C.length : Int) (i : Int)) R ∧ Ev (fun k => mootlaw4_LedgerCloses.l0 k on R.1 R.2 0 L C (C.length : Int) (i : Int)) true
theorem both_l1 (on : Int) (on0 : 0 ≤ on) (on1 : on ≤ 1048575) (C : List Int) (hC : C.length ≤ 17592186044416) (i : Nat) (hi : i < C.length) (hn : ∀ L, Past on L → Both on C (i + 1) L) (a : Int) (a0 : 1 ≤ a) (a1 : a ≤ 99) :
    ∀ (m : Nat) (n c d : Int) (L : List S35), n.natAbs ≤ m → n = c - d → 0 ≤ c → c ≤ 2199023255552000 → 0 ≤ d → d ≤ 2199023255552000 → Past on L →
      ∃ R : List S35 × Int, Ev (fun k => ledger_Close.l1 k on L a n C (C.length : Int) (i : Int)) R ∧ Ev (fun k => mootlaw4_LedgerCloses.l1 k on R.1 R.2 0 L a c d C (C.length : Int) (i : Int)) true := by
  have hw : wrap64 ((i : Int) + 1) = ((i + 1 : Nat) : Int) := by rw [w64 (by omega) (by omega)]; omega
  -- a round that ends in an error
  have bad : ∀ (c d : Int) (L : List S35), Ev (fun k => mootlaw4_LedgerCloses.l1 k on [] 6 6 L a c d C (C.length : Int) (i : Int)) true := by
    intro c d L
    have e := faulty on 6 (by decide) L C hC (C.length - (i + 1)) (i + 1) (by omega)
    have j : Ev (fun k => mootlaw4_LedgerCloses.j6 k on [] 6 6 L a c d C (C.length : Int) (i : Int) false) true := by
      apply Ev.step
      · intro k; rw [mootlaw4_LedgerCloses.j6]
      · refine Ev.ite_neg (by decide) ?_
        rw [hw]; exact e
    apply Ev.step
    · intro k; rw [mootlaw4_LedgerCloses.l1]
    · by_cases z : c = d
      · exact Ev.ite_pos z j
      · exact Ev.ite_neg z j
  intro m
  induction m with
  | zero =>
    intro n c d L hm hcd _ _ _ _ hL
    obtain ⟨R, h1, h2⟩ := hn L hL
    refine ⟨R, ?_, ?_⟩
    · apply Ev.step
      · intro k; rw [ledger_Close.l1]
      · refine Ev.ite_pos (by omega) ?_
        rw [hw]; exact h1
    · apply Ev.step
      · intro k; rw [mootlaw4_LedgerCloses.l1]
      · refine Ev.ite_pos (by omega) ?_
        apply Ev.step
        · intro k; rw [mootlaw4_LedgerCloses.j6]
        · refine Ev.ite_neg (by decide) ?_
          rw [hw]; exact h2
  | succ m ih =>
    intro n c d L hm hcd c0 c1 d0 d1 hL
    by_cases z : n = 0
    · obtain ⟨R, h1, h2⟩ := hn L hL
      refine ⟨R, ?_, ?_⟩
      · apply Ev.step
        · intro k; rw [ledger_Close.l1]
        · refine Ev.ite_pos z ?_
          rw [hw]; exact h1
      · apply Ev.step
        · intro k; rw [mootlaw4_LedgerCloses.l1]
        · refine Ev.ite_pos (by omega) ?_
          apply Ev.step
          · intro k; rw [mootlaw4_LedgerCloses.j6]
          · refine Ev.ite_neg (by decide) ?_
            rw [hw]; exact h2
    · have hl := (check_all hL.hc).1
      by_cases zn : n < 0
      · have one : oneV (⟨on, 0, a, min (-n) 1099511627776⟩ : S35) = 0 := by unfold oneV; simp only; rw [if_neg (by omega), if_neg (by omega), if_neg (by omega)]
        have hp := post_any L on 0 a (min (-n) 1099511627776) hL.hc one hL.hd
        have hf := fault_ok (L ++ [(⟨on, 0, a, min (-n) 1099511627776⟩ : S35)])
        have start : ∀ R : List S35 × Int, (∃ f : Int, checkV (L ++ [(⟨on, 0, a, min (-n) 1099511627776⟩ : S35)]) = f ∧ Ev (fun k => mootlaw4_LedgerCloses.l1 k on R.1 R.2 f (L ++ [(⟨on, 0, a, min (-n) 1099511627776⟩ : S35)]) a (c + min (-n) 1099511627776) d C (C.length : Int) (i : Int)) true) →
            Ev (fun k => mootlaw4_LedgerCloses.l1 k on R.1 R.2 0 L a c d C (C.length : Int) (i : Int)) true := by
          rintro R ⟨f, hf2, h⟩
          rw [hf2] at hf
          apply Ev.step
          · intro k; rw [mootlaw4_LedgerCloses.l1]
          · refine Ev.ite_neg (by omega) ?_
            apply Ev.step
            · intro k; rw [mootlaw4_LedgerCloses.j6]
            · refine Ev.ite_pos (by decide) (Ev.ite_pos (by omega) (Ev.ite_pos (by omega) ?_))
              rw [mx_eq, mn_eq, w64 (a := c - d) (by omega) (by omega), w64 (a := d - c) (by omega) (by omega), show min (max (c - d) (d - c)) 1099511627776 = min (-n) 1099511627776 by omega, w64 (a := c + min (-n) 1099511627776) (by omega) (by omega)]
              simp only [Option.bind_some]
              exact Ev.bind hf h
        by_cases hlt : L.length < 2000
        · rw [if_pos hlt] at hp
          obtain ⟨R, h1, h2⟩ := ih (n - max (-1099511627776) (min 1099511627776 n)) (c + min (-n) 1099511627776) d _ (by omega) (by omega) (by omega) (by omega) d0 d1 (hL.snoc _ one rfl hlt)
          refine ⟨R, ?_, start R ⟨0, (hL.snoc _ one rfl hlt).hc, h2⟩⟩
          apply Ev.step
          · intro k; rw [ledger_Close.l1]
          · refine Ev.ite_neg z (Ev.ite_pos zn ?_)
            rw [mn_eq, mn_eq, mx_eq, w64 (a := -n) (by omega) (by omega), w64 (by omega) (by omega)]
            exact Ev.bind hp (Ev.ite_pos rfl h1)
        · rw [if_neg hlt] at hp
          refine ⟨([], 6), ?_, start ([], 6) ⟨6, by unfold checkV; rw [if_pos (by simp; omega)], bad _ _ _⟩⟩
          apply Ev.step
          · intro k; rw [ledger_Close.l1]
          · refine Ev.ite_neg z (Ev.ite_pos zn ?_)
            rw [mn_eq, w64 (a := -n) (by omega) (by omega)]
            exact Ev.bind hp (Ev.ite_neg (by decide) (Ev.now _))
      · have one : oneV (⟨on, a, 0, min n 1099511627776⟩ : S35) = 0 := by unfold oneV; simp only; rw [if_neg (by omega), if_neg (by omega), if_neg (by omega)]
        have hp := post_any L on a 0 (min n 1099511627776) hL.hc one hL.hd
        have hf := fault_ok (L ++ [(⟨on, a, 0, min n 1099511627776⟩ : S35)])
        have start : ∀ R : List S35 × Int, (∃ f : Int, checkV (L ++ [(⟨on, a, 0, min n 1099511627776⟩ : S35)]) = f ∧ Ev (fun k => mootlaw4_LedgerCloses.l1 k on R.1 R.2 f (L ++ [(⟨on, a, 0, min n 1099511627776⟩ : S35)]) a c (d + min n 1099511627776) C (C.length : Int) (i : Int)) true) →
            Ev (fun k => mootlaw4_LedgerCloses.l1 k on R.1 R.2 0 L a c d C (C.length : Int) (i : Int)) true := by
          rintro R ⟨f, hf2, h⟩
          rw [hf2] at hf
          apply Ev.step
          · intro k; rw [mootlaw4_LedgerCloses.l1]
          · refine Ev.ite_neg (by omega) ?_
            apply Ev.step
            · intro k; rw [mootlaw4_LedgerCloses.j6]
            · refine Ev.ite_pos (by decide) (Ev.ite_neg (by omega) (Ev.ite_pos (by omega) ?_))
              rw [mx_eq, mn_eq, w64 (a := c - d) (by omega) (by omega), w64 (a := d - c) (by omega) (by omega), show min (max (c - d) (d - c)) 1099511627776 = min n 1099511627776 by omega, w64 (a := d + min n 1099511627776) (by omega) (by omega)]
              simp only [Option.bind_some]
              exact Ev.bind hf h
        by_cases hlt : L.length < 2000
        · rw [if_pos hlt] at hp
          obtain ⟨R, h1, h2⟩ := ih (n - max (-1099511627776) (min 1099511627776 n)) c (d + min n 1099511627776) _ (by omega) (by omega) c0 c1 (by omega) (by omega) (hL.snoc _ one rfl hlt)
          refine ⟨R, ?_, start R ⟨0, (hL.snoc _ one rfl hlt).hc, h2⟩⟩
          apply Ev.step
          · intro k; rw [ledger_Close.l1]
          · refine Ev.ite_neg z (Ev.ite_neg zn ?_)
            rw [mn_eq, mn_eq, mx_eq, w64 (by omega) (by omega)]
            exact Ev.bind hp (Ev.ite_pos rfl h1)
        · rw [if_neg hlt] at hp
          refine ⟨([], 6), ?_, start ([], 6) ⟨6, by unfold checkV; rw [if_pos (by simp; omega)], bad _ _ _⟩⟩
          apply Ev.step
          · intro k; rw [ledger_Close.l1]
          · refine Ev.ite_neg z (Ev.ite_neg zn ?_)
            rw [mn_eq]
            exact Ev.bind hp (Ev.ite_neg (by decide) (Ev.now _))
theorem both_l0 (on : Int) (on0 : 0 ≤ on) (on1 : on ≤ 1048575) (C : List Int) (hC : C.length ≤ 17592186044416) : ∀ (n i : Nat) (L : List S35), i + n = C.length → Past on L → Both on C i L := by
  intro n
  induction n with
  | zero =>
    intro i L h hL
    have hl := (check_all hL.hc).1
    refine ⟨(L, 0), ?_, ?_⟩
    · apply Ev.step
      · intro k; rw [ledger_Close.l0]
      · exact Ev.ite_neg (by omega) (Ev.now _)
    · apply Ev.step
      · intro k; rw [mootlaw4_LedgerCloses.l0]
      · exact Ev.ite_neg (by omega) (Ev.ite_pos rfl (Ev.ite_pos rfl (Ev.bind (equal_ok L (by omega)) (Ev.now _))))
  | succ n ih =>
    intro i L h hL
    have hw : wrap64 ((i : Int) + 1) = ((i + 1 : Nat) : Int) := by rw [w64 (by omega) (by omega)]; omega
    obtain ⟨hl, ha⟩ := check_all hL.hc
    have hrd : rd C (i : Int) = C.getD i 0 := rfl
    generalize hc : C.getD i 0 = c at *
    have fault : ∀ f : Int, f ≠ 0 → Ev (fun k => mootlaw4_LedgerCloses.l0 k on [] f f L C (C.length : Int) ((i + 1 : Nat) : Int)) true := fun f hf => faulty on f hf L C hC n (i + 1) (by omega)
    by_cases z0 : c = 0
    · refine ⟨([], 19), ?_, ?_⟩
      · apply Ev.step
        · intro k; rw [ledger_Close.l0]
        · exact Ev.ite_pos (by omega) (Ev.ite_pos (by omega) (Ev.ite_pos (by omega) (Ev.ite_pos (by rw [hrd]; exact z0) (Ev.now _))))
      · apply Ev.step
        · intro k; rw [mootlaw4_LedgerCloses.l0]
        · refine Ev.ite_pos (by omega) (Ev.ite_pos (by omega) (Ev.ite_pos (by omega) (Ev.ite_pos rfl (Ev.ite_pos (by rw [hrd]; exact z0) ?_))))
          rw [hw]; exact fault 19 (by decide)
    · by_cases zr : c < 0 ∨ c > 99
      · have hb : Ev (fun k => ledger_Balance.f k L c on) (0, 1) := by
          unfold ledger_Balance.f
          have hck := check_ok L
          rw [hL.hc] at hck
          refine Ev.bind hck (Ev.ite_pos rfl ?_)
          have j : Ev (fun k => ledger_Balance.j0 k L c on true) (0, 1) := by
            apply Ev.step
            · intro k; rw [ledger_Balance.j0]
            · exact Ev.ite_pos rfl (Ev.now _)
          by_cases q : c < 0
          · exact Ev.ite_pos q j
          · refine Ev.ite_neg q ?_
            rw [decide_eq_true (show c ≥ 100 by omega)]; exact j
        refine ⟨([], 1), ?_, ?_⟩
        · apply Ev.step
          · intro k; rw [ledger_Close.l0]
          · refine Ev.ite_pos (by omega) (Ev.ite_pos (by omega) (Ev.ite_pos (by omega) (Ev.ite_neg (by rw [hrd]; exact z0) ?_)))
            rw [hrd]
            exact Ev.bind hb (Ev.ite_neg (by decide) (Ev.now _))
        · apply Ev.step
          · intro k; rw [mootlaw4_LedgerCloses.l0]
          · refine Ev.ite_pos (by omega) (Ev.ite_pos (by omega) (Ev.ite_pos (by omega) (Ev.ite_pos rfl (Ev.ite_neg (by rw [hrd]; exact z0) ?_))))
            rw [hw, hrd]
            by_cases q : c < 0
            · exact Ev.ite_pos q (fault 1 (by decide))
            · exact Ev.ite_neg q (Ev.ite_pos (by omega) (fault 1 (by decide)))
      · have hv : ∀ e ∈ L, 0 ≤ e.f3 ∧ e.f3 ≤ 1099511627776 := fun e he => by have := one_day e (ha e he); omega
        have hb := balance_ok L c on hL.hc (by omega) (by omega)
        have hm := moved_ok L hl hv c
        have hbd := cin_bd c 1099511627776 L hv
        have hs := bal_split c on L (fun e he => ⟨hL.hd e he, (one_day e (ha e he)).2.2.2.2.2.2.1⟩)
        obtain ⟨R, h1, h2⟩ := both_l1 on on0 on1 C hC i (by omega) (fun L' hL' => ih (i + 1) L' (by omega) hL') c (by omega) (by omega) _ (bal c on L) (cin c L) (cout c L) L (Nat.le_refl _) hs (by omega) (by omega) (by omega) (by omega) hL
        refine ⟨R, ?_, ?_⟩
        · apply Ev.step
          · intro k; rw [ledger_Close.l0]
          · refine Ev.ite_pos (by omega) (Ev.ite_pos (by omega) (Ev.ite_pos (by omega) (Ev.ite_neg (by rw [hrd]; exact z0) ?_)))
            rw [hrd]
            exact Ev.bind hb (Ev.ite_pos rfl h1)
        · apply Ev.step
          · intro k; rw [mootlaw4_LedgerCloses.l0]
          · refine Ev.ite_pos (by omega) (Ev.ite_pos (by omega) (Ev.ite_pos (by omega) (Ev.ite_pos rfl (Ev.ite_neg (by rw [hrd]; exact z0) ?_))))
            rw [hrd]
            exact Ev.ite_neg (by omega) (Ev.ite_neg (by omega) (Ev.bind hm h2))
theorem posts_ok : Ev (fun k => mootlaw4_posts.f k) true := Ev.of (mootlaw4_posts.mono) (k := 20) (by decide +kernel)
theorem LedgerCloses : mootlaw4_LedgerCloses.Pure := by
  intro L C on _ hL2 _ _ hC2 _ hon
  have hq := wf_bd hon
  have hC : C.length ≤ 17592186044416 := by omega
  have hl : L.length < 4398046511104 := by omega
  have hclone : ledger_Entry_18.f L = some L := if_pos hl
  have j3 : ∀ (X : List S35) (e f : Int), Ev (fun k => mootlaw4_LedgerCloses.l0 k on X e f L C (C.length : Int) 0) true → Ev (fun k => mootlaw4_LedgerCloses.j3 k L C on X e f) true := by
    intro X e f h
    apply Ev.step
    · intro k; rw [mootlaw4_LedgerCloses.j3]
    · simp only [hclone, Option.bind_some]; exact h
  have fault : ∀ f : Int, f ≠ 0 → Ev (fun k => mootlaw4_LedgerCloses.j1 k L C on [] f f) true := by
    intro f hf
    apply Ev.step
    · intro k; rw [mootlaw4_LedgerCloses.j1]
    · refine Ev.ite_neg hf ?_
      apply Ev.step
      · intro k; rw [mootlaw4_LedgerCloses.j2]
      · exact Ev.ite_neg (by decide) (j3 _ _ _ (faulty on f hf L C hC C.length 0 (by omega)))
  have hck := check_ok L
  have hft := fault_ok L
  refine Ev.rounds ?_
  unfold mootlaw4_LedgerCloses.f
  refine Ev.bind posts_ok (Ev.ite_pos rfl ?_)
  by_cases z : checkV L = 0
  · rw [z] at hck hft
    by_cases zd : on < 0 ∨ on > 1048575
    · have hclose : Ev (fun k => ledger_Close.f k L C on) ([], 1) := by
        unfold ledger_Close.f
        refine Ev.bind hck (Ev.ite_pos rfl ?_)
        have j : Ev (fun k => ledger_Close.j0 k L C on true) ([], 1) := by
          apply Ev.step
          · intro k; rw [ledger_Close.j0]
          · exact Ev.ite_pos rfl (Ev.now _)
        by_cases q : on < 0
        · exact Ev.ite_pos q j
        · refine Ev.ite_neg q ?_
          rw [decide_eq_true (show on > 1048575 by omega)]; exact j
      refine Ev.bind hclose (Ev.bind hft (Ev.ite_pos rfl ?_))
      have j : Ev (fun k => mootlaw4_LedgerCloses.j0 k L C on [] 1 0 true) true := by
        apply Ev.step
        · intro k; rw [mootlaw4_LedgerCloses.j0]
        · exact Ev.ite_pos rfl (fault 1 (by decide))
      by_cases q : on < 0
      · exact Ev.ite_pos q j
      · refine Ev.ite_neg q ?_
        rw [decide_eq_true (show on > 1048575 by omega)]; exact j
    · have hchk : chk 0 L = 0 := by have := (check_all z).1; unfold checkV at z; rw [if_neg (by omega)] at z; exact z
      have hlast := chk_last L 0 hchk
      by_cases zl : 0 < L.length ∧ (rdE L (L.length - 1)).f0 > on
      · have hclose : Ev (fun k => ledger_Close.f k L C on) ([], 9) := by
          unfold ledger_Close.f
          refine Ev.bind hck (Ev.ite_pos rfl (Ev.ite_neg (by omega) ?_))
          rw [decide_eq_false (show ¬ on > 1048575 by omega)]
          apply Ev.step
          · intro k; rw [ledger_Close.j0]
          · refine Ev.ite_neg (by decide) (Ev.ite_pos (by omega) ?_)
            rw [w64 (a := (L.length : Int) - 1) (by omega) (by omega)]
            refine Ev.ite_pos (by omega) (Ev.ite_pos (by omega) ?_)
            rw [show (L.length : Int) - 1 = ((L.length - 1 : Nat) : Int) by omega, rd_nat, decide_eq_true zl.2]
            apply Ev.step
            · intro k; rw [ledger_Close.j1]
            · exact Ev.ite_pos rfl (Ev.now _)
        refine Ev.bind hclose (Ev.bind hft (Ev.ite_pos rfl (Ev.ite_neg (by omega) ?_)))
        rw [decide_eq_false (show ¬ on > 1048575 by omega)]
        apply Ev.step
        · intro k; rw [mootlaw4_LedgerCloses.j0]
        · refine Ev.ite_neg (by decide) ?_
          apply Ev.step
          · intro k; rw [mootlaw4_LedgerCloses.j1]
          · refine Ev.ite_pos rfl (Ev.ite_pos (by omega) ?_)
            rw [w64 (a := (L.length : Int) - 1) (by omega) (by omega)]
            refine Ev.ite_pos (by omega) (Ev.ite_pos (by omega) ?_)
            rw [show (L.length : Int) - 1 = ((L.length - 1 : Nat) : Int) by omega, rd_nat, decide_eq_true zl.2]
            apply Ev.step
            · intro k; rw [mootlaw4_LedgerCloses.j2]
            · exact Ev.ite_pos rfl (j3 _ _ _ (faulty on 9 (by decide) L C hC C.length 0 (by omega)))
      · have hp : Past on L := ⟨z, fun e he => by
          have h1 := hlast e he
          have h2 : 0 < L.length := List.length_pos_of_mem he
          have h3 : ¬ (rdE L (L.length - 1)).f0 > on := fun q => zl ⟨h2, q⟩
          omega⟩
        obtain ⟨R, h1, h2⟩ := both_l0 on (by omega) (by omega) C hC C.length 0 L (by omega) hp
        have hclose : Ev (fun k => ledger_Close.f k L C on) R := by
          unfold ledger_Close.f
          refine Ev.bind hck (Ev.ite_pos rfl (Ev.ite_neg (by omega) ?_))
          rw [decide_eq_false (show ¬ on > 1048575 by omega)]
          have j1 : Ev (fun k => ledger_Close.j1 k L C on false) R := by
            apply Ev.step
            · intro k; rw [ledger_Close.j1]
            · refine Ev.ite_neg (by decide) ?_
              simp only [hclone, Option.bind_some]; exact h1
          apply Ev.step
          · intro k; rw [ledger_Close.j0]
          · refine Ev.ite_neg (by decide) ?_
            by_cases q : (L.length : Int) > 0
            · refine Ev.ite_pos q ?_
              rw [w64 (a := (L.length : Int) - 1) (by omega) (by omega)]
              refine Ev.ite_pos (by omega) (Ev.ite_pos (by omega) ?_)
              rw [show (L.length : Int) - 1 = ((L.length - 1 : Nat) : Int) by omega, rd_nat, decide_eq_false (fun q2 => zl ⟨by omega, q2⟩)]
              exact j1
            · exact Ev.ite_neg q j1
        refine Ev.bind hclose (Ev.bind hft (Ev.ite_pos rfl (Ev.ite_neg (by omega) ?_)))
        rw [decide_eq_false (show ¬ on > 1048575 by omega)]
        have j2 : Ev (fun k => mootlaw4_LedgerCloses.j2 k L C on R.1 R.2 0 false) true := by
          apply Ev.step
          · intro k; rw [mootlaw4_LedgerCloses.j2]
          · exact Ev.ite_neg (by decide) (j3 _ _ _ h2)
        apply Ev.step
        · intro k; rw [mootlaw4_LedgerCloses.j0]
        · refine Ev.ite_neg (by decide) ?_
          apply Ev.step
          · intro k; rw [mootlaw4_LedgerCloses.j1]
          · refine Ev.ite_pos rfl ?_
            by_cases q : (L.length : Int) > 0
            · refine Ev.ite_pos q ?_
              rw [w64 (a := (L.length : Int) - 1) (by omega) (by omega)]
              refine Ev.ite_pos (by omega) (Ev.ite_pos (by omega) ?_)
              rw [show (L.length : Int) - 1 = ((L.length - 1 : Nat) : Int) by omega, rd_nat, decide_eq_false (fun q2 => zl ⟨by omega, q2⟩)]
              exact j2
            · exact Ev.ite_neg q j2
  · have hclose : Ev (fun k => ledger_Close.f k L C on) ([], checkV L) := by
      unfold ledger_Close.f
      exact Ev.bind hck (Ev.ite_neg z (Ev.now _))
    refine Ev.bind hclose (Ev.bind hft (Ev.ite_neg z ?_))
    apply Ev.step
    · intro k; rw [mootlaw4_LedgerCloses.j0]
    · exact Ev.ite_neg (by decide) (fault _ z)
end Go.Proofs.Ytenhnlclnjnboaa.Pure
