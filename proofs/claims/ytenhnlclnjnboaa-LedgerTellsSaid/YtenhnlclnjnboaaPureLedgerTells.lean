/- Ledgers are checked, extended, undone, summed and listed as by the second implementation: for every list of entries, entry, account, days and place. -/
import Derived.Test.YtenhnlclnjnboaaPTelx0
import Derived.Test.YtenhnlclnjnboaaPTelx5
import Derived.Test.YtenhnlclnjnboaaPTelx6
import Derived.Test.YtenhnlclnjnboaaPTelx7
import Derived.Test.YtenhnlclnjnboaaPTelx8
import Derived.Test.YtenhnlclnjnboaaPTelx9
import Derived.Test.YtenhnlclnjnboaaPTelx13
import Derived.Test.YtenhnlclnjnboaaPTelx15
import Derived.Test.YtenhnlclnjnboaaPTelx16
import Derived.Test.YtenhnlclnjnboaaPTelx17
import Derived.Test.YtenhnlclnjnboaaPTelx18
import Derived.Test.YtenhnlclnjnboaaPTelx19
import Derived.Test.YtenhnlclnjnboaaPTelx38
import Derived.Test.YtenhnlclnjnboaaPTelx39
import Derived.Test.YtenhnlclnjnboaaPTelx41
import Derived.Test.YtenhnlclnjnboaaPTelx42
import Derived.Test.YtenhnlclnjnboaaPTelx45
import Derived.Test.YtenhnlclnjnboaaPTelx45a
import Derived.Test.YtenhnlclnjnboaaTelP
import Derived.Test.YtenhnlclnjnboaaTelQ
namespace Go.Proofs.Ytenhnlclnjnboaa.Pure
open Go.RowKit Go.Proofs.Ytenhnlclnjnboaa.PTel Go.Proofs.YtenhnlclnjnboaaW.PrintWords Go.Proofs.YtenhnlclnjnboaaW.PrintLast
set_option linter.unusedVariables false
set_option linter.unusedSimpArgs false

theorem post_gen (l : List S35) (hl : l.length ≤ 4398046510976) (a b c d : Int) : Ev (fun k => ledger_Post.f k l a b c d) (if checkV (l ++ [(⟨a, b, c, d⟩ : S35)]) = 0 then (l ++ [(⟨a, b, c, d⟩ : S35)], 0) else ([], checkV (l ++ [(⟨a, b, c, d⟩ : S35)]))) := by
  refine Ev.congr (fun k => by unfold ledger_Post.f; rfl) ?_
  refine Ev.bind (a := l) ⟨0, fun _ _ => by unfold ledger_Entry_18.f; rw [if_pos (by omega)]⟩ ?_
  refine Ev.bind (a := [(⟨a, b, c, d⟩ : S35)]) (Ev.now _) (Ev.ite_pos (by simp; omega) (Ev.bind (a := l ++ [(⟨a, b, c, d⟩ : S35)]) (Ev.now _) (Ev.bind (check_ok _) ?_)))
  by_cases h : checkV (l ++ [(⟨a, b, c, d⟩ : S35)]) = 0
  · exact Ev.res (if_pos h) (Ev.ite_pos h (Ev.now _))
  · exact Ev.res (if_neg h) (Ev.ite_neg h (Ev.now _))
def balV (l : List S35) (a d : Int) : Int × Int := if checkV l = 0 then (if a < 0 ∨ a ≥ 100 then (0, 1) else (bal a d l, 0)) else (0, checkV l)
theorem balance_any (l : List S35) (a d : Int) : Ev (fun k => ledger_Balance.f k l a d) (balV l a d) := by
  unfold balV
  by_cases h : checkV l = 0
  · rw [if_pos h]
    by_cases c : a < 0 ∨ a ≥ 100
    · rw [if_pos c]
      refine Ev.congr (fun k => by unfold ledger_Balance.f; rfl) ?_
      refine Ev.bind (check_ok l) (Ev.ite_pos h ?_)
      by_cases c0 : a < 0
      · refine Ev.ite_pos c0 ?_
        apply Ev.step
        · intro k; rw [ledger_Balance.j0]
        · exact Ev.ite_pos rfl (Ev.now _)
      · refine Ev.ite_neg c0 ?_
        apply Ev.step
        · intro k; rw [ledger_Balance.j0]
        · exact Ev.ite_pos (decide_eq_true (by omega)) (Ev.now _)
    · rw [if_neg c]
      exact balance_ok l a d h (by omega) (by omega)
  · rw [if_neg h]
    refine Ev.congr (fun k => by unfold ledger_Balance.f; rfl) ?_
    exact Ev.bind (check_ok l) (Ev.ite_neg h (Ev.now _))
def turnV (l : List S35) (a f t : Int) : Int × Int × Int := if checkV l = 0 then (if a < 0 ∨ a ≥ 100 then (0, 0, 1) else (tin a f t l, tout a f t l, 0)) else (0, 0, checkV l)
theorem turnover_any (l : List S35) (a f t : Int) : Ev (fun k => ledger_Turnover.f k l a f t) (turnV l a f t) := by
  unfold turnV
  by_cases h : checkV l = 0
  · rw [if_pos h]
    by_cases c : a < 0 ∨ a ≥ 100
    · rw [if_pos c]
      refine Ev.congr (fun k => by unfold ledger_Turnover.f; rfl) ?_
      refine Ev.bind (check_ok l) (Ev.ite_pos h ?_)
      by_cases c0 : a < 0
      · refine Ev.ite_pos c0 ?_
        apply Ev.step
        · intro k; rw [ledger_Turnover.j0]
        · exact Ev.ite_pos rfl (Ev.now _)
      · refine Ev.ite_neg c0 ?_
        apply Ev.step
        · intro k; rw [ledger_Turnover.j0]
        · exact Ev.ite_pos (decide_eq_true (by omega)) (Ev.now _)
    · rw [if_neg c]
      exact turnover_ok l a f t h (by omega) (by omega)
  · rw [if_neg h]
    refine Ev.congr (fun k => by unfold ledger_Turnover.f; rfl) ?_
    exact Ev.bind (check_ok l) (Ev.ite_neg h (Ev.now _))
/-- The accounts that entries name. -/
def fl : List S35 → List Int
  | [] => []
  | e :: r => e.f1 :: e.f2 :: fl r
theorem fl_append : ∀ (l m : List S35), fl (l ++ m) = fl l ++ fl m
  | [], m => rfl
  | e :: l, m => by simp only [List.cons_append, fl, fl_append l m]
theorem fl_len : ∀ (l : List S35), (fl l).length = 2 * l.length
  | [] => rfl
  | e :: l => by simp only [fl, List.length_cons, fl_len l]; omega
theorem fl_mem : ∀ (l : List S35) (a : Int), a ∈ fl l ↔ ∃ e ∈ l, e.f1 = a ∨ e.f2 = a
  | [], a => by simp [fl]
  | e :: l, a => by
    simp only [fl, List.mem_cons, fl_mem l a]
    constructor
    · rintro (h | h | ⟨x, hx, h⟩)
      · exact ⟨e, .inl rfl, .inl h.symm⟩
      · exact ⟨e, .inl rfl, .inr h.symm⟩
      · exact ⟨x, .inr hx, h⟩
    · rintro ⟨x, rfl | hx, h⟩
      · rcases h with h | h
        · exact .inl h.symm
        · exact .inr (.inl h.symm)
      · exact .inr (.inr ⟨x, hx, h⟩)
def sorted (l : List S35) : List Int := (fl l).mergeSort fun x y => decide (x ≤ y)
def names (l : List S35) : List Int := Go.Lib.compact (sorted l)
theorem sorted_ok (l : List S35) : (sorted l).Pairwise (· ≤ ·) := by
  have := List.pairwise_mergeSort (le := fun x y : Int => decide (x ≤ y)) (fun a b c h1 h2 => by simp at *; omega) (fun a b => by simp; omega) (fl l)
  exact this.imp (fun h => by simpa using h)
theorem sorted_len (l : List S35) : (sorted l).length = 2 * l.length := by unfold sorted; rw [List.length_mergeSort, fl_len]
theorem names_len (l : List S35) : (names l).length ≤ 2 * l.length := by have := compact_len_le (sorted l); rw [sorted_len] at this; exact this
theorem names_lt (l : List S35) : (names l).Pairwise (· < ·) := compact_strict _ (sorted_ok l)
theorem names_mem (l : List S35) (a : Int) : a ∈ names l ↔ ∃ e ∈ l, e.f1 = a ∨ e.f2 = a := by
  unfold names
  rw [compact_mem _ (sorted_ok l)]
  unfold sorted
  rw [List.mem_mergeSort, fl_mem]
theorem accounts_l0 (l : List S35) (hl : l.length ≤ 2000) : ∀ (n i : Nat), i + n = l.length → Ev (fun k => ledger_Accounts.l0 k (fl (l.take i)) l (l.length : Int) (i : Int)) (names l, 0) := by
  intro n
  induction n with
  | zero =>
    intro i hi
    apply Ev.step
    · intro k; rw [ledger_Accounts.l0]
    · refine Ev.ite_neg (by omega) ?_
      rw [List.take_of_length_le (by omega)]
      have h1 := fl_len l
      have h2 := sorted_len l
      refine Ev.bind (a := sorted l) ⟨0, fun _ _ => by unfold slices_Sort_int_int.f; rw [if_pos (by omega)]; rfl⟩ (Ev.bind (a := names l) ⟨0, fun _ _ => by unfold slices_Compact_int_int.f; rw [if_pos (by omega)]; rfl⟩ (Ev.now _))
  | succ n ih =>
    intro i hi
    apply Ev.step
    · intro k; rw [ledger_Accounts.l0]
    · refine Ev.ite_pos (by omega) (Ev.ite_pos (by omega) (Ev.ite_pos (by omega) (Ev.bind (a := [(rd_T35 l (i : Int)).f1, (rd_T35 l (i : Int)).f2]) (Ev.now _) (Ev.ite_pos ?_ ?_))))
      · have h1 := fl_len (l.take i)
        rw [List.length_take] at h1
        simp only [List.length_cons, List.length_nil]
        omega
      · have e : fl (l.take i) ++ [(rd_T35 l (i : Int)).f1, (rd_T35 l (i : Int)).f2] = fl (l.take (i + 1)) := by
          rw [take_snoc l i (by omega), fl_append, rd_nat]
          rfl
        rw [e, show wrap64 ((i : Int) + 1) = ((i + 1 : Nat) : Int) by rw [w64 (by omega) (by omega)]; omega]
        exact ih (i + 1) (by omega)
def accV (l : List S35) : List Int × Int := if checkV l = 0 then (names l, 0) else ([], checkV l)
theorem accounts_any (l : List S35) : Ev (fun k => ledger_Accounts.f k l) (accV l) := by
  unfold accV
  refine Ev.congr (fun k => by unfold ledger_Accounts.f; rfl) ?_
  by_cases h : checkV l = 0
  · rw [if_pos h]
    refine Ev.bind (check_ok l) (Ev.ite_pos h ?_)
    have := accounts_l0 l (check_all h).1 l.length 0 (by omega)
    simpa [fl] using this
  · rw [if_neg h]
    exact Ev.bind (check_ok l) (Ev.ite_neg h (Ev.now _))
def undone (l : List S35) (i d : Int) : List S35 := l ++ [(⟨d, (rd_T35 l i).f2, (rd_T35 l i).f1, (rd_T35 l i).f3⟩ : S35)]
def undoV (l : List S35) (i d : Int) : List S35 × Int := if checkV l = 0 then (if i < 0 ∨ i ≥ l.length then ([], 4) else if checkV (undone l i d) = 0 then (undone l i d, 0) else ([], checkV (undone l i d))) else ([], checkV l)
theorem undo_any (l : List S35) (hl : l.length ≤ 4398046510976) (i d : Int) : Ev (fun k => ledger_Undo.f k l i d) (undoV l i d) := by
  unfold undoV
  refine Ev.congr (fun k => by unfold ledger_Undo.f; rfl) ?_
  by_cases h : checkV l = 0
  · rw [if_pos h]
    refine Ev.bind (check_ok l) (Ev.ite_pos h ?_)
    by_cases c0 : i < 0
    · rw [if_pos (.inl c0)]
      exact Ev.ite_pos c0 (Ev.now _)
    · refine Ev.ite_neg c0 ?_
      by_cases c1 : i ≥ (l.length : Int)
      · rw [if_pos (.inr c1)]
        exact Ev.ite_pos c1 (Ev.now _)
      · rw [if_neg (by omega)]
        refine Ev.ite_neg c1 (Ev.ite_pos (by omega) (Ev.ite_pos (by omega) (Ev.bind (post_gen l hl _ _ _ _) ?_)))
        exact Ev.now _
  · rw [if_neg h]
    exact Ev.bind (check_ok l) (Ev.ite_neg h (Ev.now _))
/-- What came in and went out on days that a predicate lets in. -/
def pin (p : Int → Bool) (a : Int) : List S35 → Int
  | [] => 0
  | e :: r => (if p e.f0 = true ∧ e.f2 = a then e.f3 else 0) + pin p a r
def pout (p : Int → Bool) (a : Int) : List S35 → Int
  | [] => 0
  | e :: r => (if p e.f0 = true ∧ e.f1 = a then e.f3 else 0) + pout p a r
theorem pin_append (p : Int → Bool) (a : Int) : ∀ (l m : List S35), pin p a (l ++ m) = pin p a l + pin p a m
  | [], m => by simp [pin]
  | e :: l, m => by simp only [List.cons_append, pin, pin_append p a l m]; omega
theorem pout_append (p : Int → Bool) (a : Int) : ∀ (l m : List S35), pout p a (l ++ m) = pout p a l + pout p a m
  | [], m => by simp [pout]
  | e :: l, m => by simp only [List.cons_append, pout, pout_append p a l m]; omega
theorem pin_bd (p : Int → Bool) (a : Int) : ∀ (l : List S35), (∀ e ∈ l, 0 ≤ e.f3 ∧ e.f3 ≤ 1099511627776) → 0 ≤ pin p a l ∧ pin p a l ≤ 1099511627776 * l.length ∧ 0 ≤ pout p a l ∧ pout p a l ≤ 1099511627776 * l.length
  | [], _ => by simp [pin, pout]
  | e :: r, h => by
    have ih := pin_bd p a r (fun x hx => h x (by simp [hx]))
    have he := h e (by simp)
    simp only [pin, pout, List.length_cons]
    refine ⟨?_, ?_, ?_, ?_⟩ <;> split <;> omega
theorem rd_in {l : List S35} {n : Nat} (h : n < l.length) : rd_T35 l (n : Int) ∈ l := by
  rw [rd_nat]
  unfold rdE
  rw [List.getD_eq_getElem?_getD, List.getElem?_eq_getElem h]
  exact List.getElem_mem h
theorem mv_ok (p : Int → Bool) (a : Int) (l : List S35) (hl : l.length ≤ 2000) (h : ∀ e ∈ l, 0 ≤ e.f3 ∧ e.f3 ≤ 1099511627776) : ∀ (n : Nat) (x y : Int), n ≤ l.length → 0 ≤ x → x ≤ 1099511627776 * ((l.length : Int) - n) → 0 ≤ y → y ≤ 1099511627776 * ((l.length : Int) - n) →
    mootlaw4_moved.mv p a l n x y = (x + pin p a (l.take n), y + pout p a (l.take n)) := by
  intro n
  induction n with
  | zero => intro x y _ _ _ _ _; simp [mootlaw4_moved.mv, pin, pout]
  | succ n ih =>
    intro x y hn x0 x1 y0 y1
    have he := h _ (rd_in (l := l) (n := n) (by omega))
    rw [mootlaw4_moved.mv, take_snoc l n (by omega), pin_append, pout_append, ← rd_nat]
    simp only [pin, pout, Int.add_zero]
    generalize rd_T35 l (n : Int) = e at he
    have e1 : (if p e.f0 = true ∧ e.f2 = a then wrap64 (x + e.f3) else x) = x + (if p e.f0 = true ∧ e.f2 = a then e.f3 else 0) := by
      split
      · exact w64 (by omega) (by omega)
      · omega
    have e2 : (if p e.f0 = true ∧ e.f1 = a then wrap64 (y + e.f3) else y) = y + (if p e.f0 = true ∧ e.f1 = a then e.f3 else 0) := by
      split
      · exact w64 (by omega) (by omega)
      · omega
    rw [e1, e2]
    have b1 : 0 ≤ (if p e.f0 = true ∧ e.f2 = a then e.f3 else 0) ∧ (if p e.f0 = true ∧ e.f2 = a then e.f3 else 0) ≤ 1099511627776 := by split <;> omega
    have b2 : 0 ≤ (if p e.f0 = true ∧ e.f1 = a then e.f3 else 0) ∧ (if p e.f0 = true ∧ e.f1 = a then e.f3 else 0) ≤ 1099511627776 := by split <;> omega
    rw [ih _ _ (by omega) (by omega) (by omega) (by omega) (by omega)]
    ext
    · simp only; omega
    · simp only; omega
theorem mv_all (p : Int → Bool) (a : Int) (l : List S35) (hl : l.length ≤ 2000) (h : ∀ e ∈ l, 0 ≤ e.f3 ∧ e.f3 ≤ 1099511627776) : mootlaw4_moved.mv p a l l.length 0 0 = (pin p a l, pout p a l) := by
  have := mv_ok p a l hl h l.length 0 0 (Nat.le_refl _) (by omega) (by omega) (by omega) (by omega)
  simpa using this
theorem named (a : Int) : ∀ (l : List S35), (∀ e ∈ l, 1 ≤ e.f3 ∧ e.f3 ≤ 1099511627776) → (0 < pin (fun _ => true) a l + pout (fun _ => true) a l ↔ ∃ e ∈ l, e.f1 = a ∨ e.f2 = a)
  | [], _ => by simp [pin, pout]
  | e :: r, h => by
    have ih := named a r (fun x hx => h x (by simp [hx]))
    have he := h e (by simp)
    have hb := pin_bd (fun _ => true) a r (fun x hx => by have := h x (by simp [hx]); omega)
    simp only [pin, pout, true_and, List.mem_cons, exists_eq_or_imp]
    rw [← ih]
    by_cases c1 : e.f1 = a
    · rw [if_pos c1]
      refine ⟨fun _ => .inl (.inl c1), fun _ => ?_⟩
      split <;> omega
    · rw [if_neg c1]
      by_cases c2 : e.f2 = a
      · rw [if_pos c2]
        exact ⟨fun _ => .inl (.inr c2), fun _ => by omega⟩
      · rw [if_neg c2]
        constructor
        · intro z; exact .inr (by omega)
        · rintro (z | z)
          · rcases z with z | z
            · exact absurd z c1
            · exact absurd z c2
          · omega
theorem bal_pin (a d : Int) : ∀ (l : List S35), (∀ e ∈ l, e.f1 ≠ e.f2) → bal a d l = pin (mootlaw4_moved_c36.p d) a l - pout (mootlaw4_moved_c36.p d) a l
  | [], _ => by simp [bal, pin, pout]
  | e :: r, h => by
    have ih := bal_pin a d r (fun x hx => h x (by simp [hx]))
    have he := h e (by simp)
    simp only [bal, pin, pout, ih]
    unfold eff mootlaw4_moved_c36.p
    simp only [decide_eq_true_eq]
    by_cases c : e.f0 > d
    · rw [if_pos c, if_neg (by omega), if_neg (by omega)]; omega
    · rw [if_neg c]
      by_cases c2 : e.f2 = a
      · rw [if_pos c2, if_pos ⟨by omega, c2⟩, if_neg (fun z => he (by rw [z.2, c2]))]; omega
      · rw [if_neg c2]
        by_cases c1 : e.f1 = a
        · rw [if_pos c1, if_neg (fun z => c2 z.2), if_pos ⟨by omega, c1⟩]; omega
        · rw [if_neg c1, if_neg (fun z => c2 z.2), if_neg (fun z => c1 z.2)]; omega
theorem turn_pin (a f t : Int) : ∀ (l : List S35), (∀ e ∈ l, e.f1 ≠ e.f2) → tin a f t l = pin (mootlaw4_moved_c37.p f t) a l ∧ tout a f t l = pout (mootlaw4_moved_c37.p f t) a l
  | [], _ => by simp [tin, tout, pin, pout]
  | e :: r, h => by
    have ih := turn_pin a f t r (fun x hx => h x (by simp [hx]))
    have he := h e (by simp)
    simp only [tin, tout, pin, pout, ih.1, ih.2]
    unfold effIn effOut mootlaw4_moved_c37.p
    simp only [Bool.and_eq_true, decide_eq_true_eq]
    by_cases c : e.f0 < f ∨ e.f0 ≥ t
    · rw [if_pos c, if_pos c, if_neg (by omega), if_neg (by omega)]; exact ⟨rfl, rfl⟩
    · rw [if_neg c, if_neg c]
      by_cases c2 : e.f2 = a
      · rw [if_pos c2, if_pos c2, if_pos ⟨by omega, c2⟩, if_neg (fun z => he (by rw [z.2, c2]))]; exact ⟨rfl, rfl⟩
      · rw [if_neg c2, if_neg c2, if_neg (fun z => c2 z.2)]
        by_cases c1 : e.f1 = a
        · rw [if_pos c1, if_pos ⟨by omega, c1⟩]; exact ⟨rfl, rfl⟩
        · rw [if_neg c1, if_neg (fun z => c1 z.2)]; exact ⟨rfl, rfl⟩
theorem rd_int (X : List Int) (i : Nat) (h : i < X.length) : rd X (i : Int) = X[i] := by
  unfold rd
  simp [List.getD_eq_getElem?_getD, h]
theorem index_l0 (X : List Int) (hX : X.length ≤ 100000) (a : Int) : ∀ (n i : Nat), i + n = X.length → ∃ r, Ev (fun k => slices_Index_int_int.l0 k X a (X.length : Int) (i : Int)) r ∧ (r ≥ 0 ↔ a ∈ X.drop i) := by
  intro n
  induction n with
  | zero =>
    intro i hi
    refine ⟨-1, ?_, ?_⟩
    · apply Ev.step
      · intro k; rw [slices_Index_int_int.l0]
      · exact Ev.ite_neg (by omega) (Ev.now _)
    · rw [List.drop_of_length_le (by omega)]; simp
  | succ n ih =>
    intro i hi
    have hd : X.drop i = X[i]'(by omega) :: X.drop (i + 1) := List.drop_eq_getElem_cons (by omega)
    by_cases c : a = X[i]'(by omega)
    · refine ⟨i, ?_, ?_⟩
      · apply Ev.step
        · intro k; rw [slices_Index_int_int.l0]
        · exact Ev.ite_pos (by omega) (Ev.ite_pos (by omega) (Ev.ite_pos (by omega) (Ev.ite_pos (by rw [rd_int X i (by omega)]; exact c) (Ev.now _))))
      · rw [hd, List.mem_cons]
        exact ⟨fun _ => .inl c, fun _ => by omega⟩
    · obtain ⟨r, h1, h2⟩ := ih (i + 1) (by omega)
      refine ⟨r, ?_, ?_⟩
      · apply Ev.step
        · intro k; rw [slices_Index_int_int.l0]
        · refine Ev.ite_pos (by omega) (Ev.ite_pos (by omega) (Ev.ite_pos (by omega) (Ev.ite_neg (by rw [rd_int X i (by omega)]; exact c) ?_)))
          rw [show wrap64 ((i : Int) + 1) = ((i + 1 : Nat) : Int) by rw [w64 (by omega) (by omega)]; omega]
          exact h1
      · rw [hd, List.mem_cons, h2]
        exact ⟨.inr, fun z => z.resolve_left c⟩
theorem contains_ok (X : List Int) (hX : X.length ≤ 100000) (a : Int) : ∃ b, Ev (fun k => slices_Contains_int_int.f k X a) b ∧ (b = true ↔ a ∈ X) := by
  obtain ⟨r, h1, h2⟩ := index_l0 X hX a X.length 0 (by omega)
  refine ⟨decide (r ≥ 0), ?_, ?_⟩
  · refine Ev.congr (fun k => by unfold slices_Contains_int_int.f slices_Index_int_int.f; rfl) ?_
    exact Ev.bind h1 (Ev.now _)
  · rw [decide_eq_true_eq, h2, List.drop_zero]
theorem less_ok (a b : Int) : cmp_Less_int.f a b = some (decide (a < b)) := by unfold cmp_Less_int.f cmp_isNaN_int.f; simp
theorem issorted_l0 (X : List Int) (hX : X.length ≤ 100000) (hs : X.Pairwise (· < ·)) : ∀ (n : Nat), n < X.length ∨ n = 0 → Ev (fun k => slices_IsSorted_int_int.l0 k X (n : Int)) true := by
  intro n
  induction n with
  | zero =>
    intro _
    apply Ev.step
    · intro k; rw [slices_IsSorted_int_int.l0]
    · exact Ev.ite_neg (by omega) (Ev.now _)
  | succ n ih =>
    intro hn
    have e : wrap64 (((n + 1 : Nat) : Int) - 1) = (n : Int) := by rw [w64 (by omega) (by omega)]; omega
    apply Ev.step
    · intro k; rw [slices_IsSorted_int_int.l0]
    · rw [e]
      refine Ev.ite_pos (by omega) (Ev.ite_pos (by omega) (Ev.ite_pos (by omega) (Ev.ite_pos (by omega) (Ev.ite_pos (by omega) ?_))))
      refine Ev.bind (a := false) ⟨0, fun _ _ => ?_⟩ (Ev.ite_neg (by simp) (ih (.inl (by omega))))
      rw [less_ok, rd_int X (n + 1) (by omega), rd_int X n (by omega)]
      have := List.pairwise_iff_getElem.1 hs n (n + 1) (by omega) (by omega) (by omega)
      simp; omega
theorem issorted_ok (X : List Int) (hX : X.length ≤ 100000) (hs : X.Pairwise (· < ·)) : Ev (fun k => slices_IsSorted_int_int.f k X) true := by
  refine Ev.congr (fun k => by unfold slices_IsSorted_int_int.f; rfl) ?_
  rcases Nat.eq_zero_or_pos X.length with h | h
  · apply Ev.step
    · intro k; rw [slices_IsSorted_int_int.l0]
    · rw [h]; exact Ev.ite_neg (by rw [w64 (by omega) (by omega)]; omega) (Ev.now _)
  · have := issorted_l0 X hX hs (X.length - 1) (.inl (by omega))
    rw [show ((X.length - 1 : Nat) : Int) = wrap64 ((X.length : Int) - 1) by rw [w64 (by omega) (by omega)]; omega] at this
    exact this
theorem tells_j7 (l : List S35) (hV : checkV l = 0) (a f t : Int) (b : Bool) (hb : b = true ↔ (a < 0 ∨ a ≥ 100)) : Ev (fun k => mootlaw4_LedgerTells.j7 k l a (balV l a t).1 (balV l a t).2 (turnV l a f t).1 (turnV l a f t).2.1 (turnV l a f t).2.2 b f t) true := by
  obtain ⟨hn, hall⟩ := check_all hV
  have h3 : ∀ e ∈ l, 0 ≤ e.f3 ∧ e.f3 ≤ 1099511627776 := fun e he => by have := one_day e (hall e he); omega
  have hne : ∀ e ∈ l, e.f1 ≠ e.f2 := fun e he => (one_day e (hall e he)).2.2.2.2.2.2.1
  unfold balV turnV
  rw [if_pos hV, if_pos hV]
  apply Ev.step
  · intro k; rw [mootlaw4_LedgerTells.j7]
  · by_cases c : a < 0 ∨ a ≥ 100
    · rw [if_pos c, if_pos c]
      refine Ev.ite_pos (hb.2 c) (Ev.ite_pos rfl (Ev.ite_pos rfl (Ev.some_ ?_)))
      simp [wrap64]
    · rw [if_neg c, if_neg c]
      refine Ev.ite_neg (fun z => c (hb.1 z)) ?_
      refine Ev.bind (a := (pin (mootlaw4_moved_c36.p t) a l, pout (mootlaw4_moved_c36.p t) a l)) ⟨0, fun _ _ => by unfold mootlaw4_moved_c36.f; rw [if_pos (by omega), mv_all _ _ _ hn h3]⟩ ?_
      refine Ev.bind (a := (pin (mootlaw4_moved_c37.p f t) a l, pout (mootlaw4_moved_c37.p f t) a l)) ⟨0, fun _ _ => by unfold mootlaw4_moved_c37.f; rw [if_pos (by omega), mv_all _ _ _ hn h3]⟩ ?_
      have e1 := bal_pin a t l hne
      have e2 := turn_pin a f t l hne
      have e3 := pin_bd (mootlaw4_moved_c36.p t) a l h3
      refine Ev.ite_pos rfl (Ev.ite_pos ?_ (Ev.ite_pos rfl (Ev.ite_pos e2.1 (Ev.some_ ?_))))
      · show bal a t l = wrap64 (pin (mootlaw4_moved_c36.p t) a l - pout (mootlaw4_moved_c36.p t) a l)
        rw [w64 (by omega) (by omega)]; exact e1
      · show (tout a f t l == pout (mootlaw4_moved_c37.p f t) a l) = true
        rw [e2.2]; simp
theorem tells_l0 (l : List S35) (hV : checkV l = 0) (a f t : Int) : ∀ (n i : Nat), i + n = 100 → Ev (fun k => mootlaw4_LedgerTells.l0 k l a (balV l a t).1 (balV l a t).2 (turnV l a f t).1 (turnV l a f t).2.1 (turnV l a f t).2.2 (names l) (i : Int) f t) true := by
  obtain ⟨hn, hall⟩ := check_all hV
  have h3 : ∀ e ∈ l, 1 ≤ e.f3 ∧ e.f3 ≤ 1099511627776 := fun e he => by have := one_day e (hall e he); omega
  have h30 : ∀ e ∈ l, 0 ≤ e.f3 ∧ e.f3 ≤ 1099511627776 := fun e he => by have := h3 e he; omega
  have hN := names_len l
  intro n
  induction n with
  | zero =>
    intro i hi
    apply Ev.step
    · intro k; rw [mootlaw4_LedgerTells.l0]
    · refine Ev.ite_neg (by omega) (Ev.bind (issorted_ok (names l) (by omega) (names_lt l)) (Ev.ite_pos rfl ?_))
      refine Ev.bind (a := names l) ⟨0, fun _ _ => by unfold slices_Clone_int_int.f; rw [if_pos (by omega)]⟩ (Ev.bind (a := names l) ⟨0, fun _ _ => by unfold slices_Compact_int_int.f; rw [if_pos (by omega), compact_self _ (names_lt l)]⟩ ?_)
      apply Ev.step
      · intro k; rw [mootlaw4_LedgerTells.j6]
      · refine Ev.ite_neg (by simp) ?_
        by_cases c : a < 0
        · exact Ev.ite_pos c (tells_j7 l hV a f t true ⟨fun _ => .inl c, fun _ => rfl⟩)
        · exact Ev.ite_neg c (tells_j7 l hV a f t _ (by rw [decide_eq_true_eq]; omega))
  | succ n ih =>
    intro i hi
    obtain ⟨b, hb, hm⟩ := contains_ok (names l) (by omega) (i : Int)
    have e3 := pin_bd (fun _ => true) (i : Int) l h30
    have hk := named (i : Int) l h3
    apply Ev.step
    · intro k; rw [mootlaw4_LedgerTells.l0]
    · refine Ev.ite_pos (by omega) ?_
      refine Ev.bind (a := (pin (fun _ => true) (i : Int) l, pout (fun _ => true) (i : Int) l)) ⟨0, fun _ _ => by unfold mootlaw4_moved_c32.f; rw [if_pos (by omega), mv_all _ _ _ hn h30]; rfl⟩ (Ev.bind hb (Ev.ite_neg ?_ ?_))
      · have e : wrap64 (pin (fun _ => true) (i : Int) l + pout (fun _ => true) (i : Int) l) = pin (fun _ => true) (i : Int) l + pout (fun _ => true) (i : Int) l := w64 (by omega) (by omega)
        show ¬ ((decide (wrap64 (pin (fun _ => true) (i : Int) l + pout (fun _ => true) (i : Int) l) > 0)) != b) = true
        rw [e]
        have : decide (pin (fun _ => true) (i : Int) l + pout (fun _ => true) (i : Int) l > 0) = b := by
          rw [Bool.eq_iff_iff, decide_eq_true_eq, hm, names_mem, ← hk]
        rw [this]; simp
      · rw [show wrap64 ((i : Int) + 1) = ((i + 1 : Nat) : Int) by rw [w64 (by omega) (by omega)]; omega]
        exact ih (i + 1) (by omega)
theorem tells_j4 (l : List S35) (hV : checkV l = 0) (a f t : Int) : Ev (fun k => mootlaw4_LedgerTells.j4 k l a (balV l a t).1 (balV l a t).2 (turnV l a f t).1 (turnV l a f t).2.1 (turnV l a f t).2.2 (names l) f t) true := by
  apply Ev.step
  · intro k; rw [mootlaw4_LedgerTells.j4]
  · exact tells_l0 l hV a f t 100 0 (by omega)
theorem tells_j3 (l : List S35) (hV : checkV l = 0) (a f t : Int) : Ev (fun k => mootlaw4_LedgerTells.j3 k l a (balV l a t).1 (balV l a t).2 (turnV l a f t).1 (turnV l a f t).2.1 (turnV l a f t).2.2 (names l) false f t) true := by
  apply Ev.step
  · intro k; rw [mootlaw4_LedgerTells.j3]
  · exact Ev.ite_neg (by simp) (tells_j4 l hV a f t)
theorem tells_j1 (l : List S35) (hl : l.length ≤ 4398046510976) (hV : checkV l = 0) (a i f t : Int) (b : Bool) (hb : b = true ↔ (i < 0 ∨ i ≥ l.length)) : Ev (fun k => mootlaw4_LedgerTells.j1 k l a i (balV l a t).1 (balV l a t).2 (turnV l a f t).1 (turnV l a f t).2.1 (turnV l a f t).2.2 (names l) (undoV l i t).1 (undoV l i t).2 b f t) true := by
  unfold undoV
  rw [if_pos hV]
  apply Ev.step
  · intro k; rw [mootlaw4_LedgerTells.j1]
  · by_cases c : i < 0 ∨ i ≥ l.length
    · rw [if_pos c]
      refine Ev.ite_pos (hb.2 c) (Ev.ite_pos rfl ?_)
      apply Ev.step
      · intro k; rw [mootlaw4_LedgerTells.j2]
      · exact Ev.ite_neg (by simp) (tells_j4 l hV a f t)
    · rw [if_neg c]
      refine Ev.ite_neg (fun z => c (hb.1 z)) ?_
      refine Ev.bind (a := l) ⟨0, fun _ _ => by unfold ledger_Entry_18.f; rw [if_pos (by omega)]⟩ (Ev.ite_pos (by omega) (Ev.ite_pos (by omega) (Ev.bind (a := [(⟨t, (rd_T35 l i).f2, (rd_T35 l i).f1, (rd_T35 l i).f3⟩ : S35)]) (Ev.now _) (Ev.ite_pos (by simp; omega) (Ev.bind (a := undone l i t) (Ev.now _) (Ev.bind (fault_ok _) ?_))))))
      by_cases u : checkV (undone l i t) = 0
      · rw [if_pos u]
        refine Ev.ite_pos u.symm (Ev.ite_pos u (Ev.bind (equal_ok (undone l i t) (by unfold undone; simp; omega)) (Ev.ite_pos rfl (tells_j3 l hV a f t))))
      · rw [if_neg u]
        refine Ev.ite_pos rfl (Ev.ite_neg u ?_)
        have := tells_j3 l hV a f t
        simpa using this
theorem tells_j0 (l : List S35) (hl : l.length ≤ 4398046510976) (a i f t : Int) : Ev (fun k => mootlaw4_LedgerTells.j0 k l a i (checkV l) (balV l a t).1 (balV l a t).2 (turnV l a f t).1 (turnV l a f t).2.1 (turnV l a f t).2.2 (accV l).1 (undoV l i t).1 (undoV l i t).2 false f t) true := by
  apply Ev.step
  · intro k; rw [mootlaw4_LedgerTells.j0]
  · refine Ev.ite_neg (by simp) ?_
    by_cases hV : checkV l = 0
    · refine Ev.ite_pos hV ?_
      have ea : (accV l).1 = names l := by unfold accV; rw [if_pos hV]
      rw [ea]
      by_cases c : i < 0
      · exact Ev.ite_pos c (tells_j1 l hl hV a i f t true ⟨fun _ => .inl c, fun _ => rfl⟩)
      · exact Ev.ite_neg c (tells_j1 l hl hV a i f t _ (by rw [decide_eq_true_eq]; omega))
    · refine Ev.ite_neg hV ?_
      unfold balV turnV accV undoV
      rw [if_neg hV, if_neg hV, if_neg hV, if_neg hV]
      refine Ev.ite_pos rfl (Ev.ite_pos rfl (Ev.ite_pos rfl (Ev.some_ ?_)))
      simp [wrap64]
theorem LedgerTells : mootlaw4_LedgerTells.Pure := by
  intro l e0 e1 e2 e3 a f t i _ hl _ _ _ _ _ _ _ _ _
  have hl' : l.length ≤ 4398046510976 := by omega
  have hA : ((accV l).2 != checkV l) = false := by
    unfold accV
    by_cases h : checkV l = 0
    · rw [if_pos h, h]; rfl
    · rw [if_neg h]; simp
  refine Ev.rounds ?_
  refine Ev.congr (fun k => by unfold mootlaw4_LedgerTells.f; rfl) ?_
  refine Ev.bind posts_ok (Ev.ite_pos rfl (Ev.bind (fault_ok l) (Ev.bind (post_gen l hl' e0 e1 e2 e3) (Ev.bind (balance_any l a t) (Ev.bind (turnover_any l a f t) (Ev.bind (accounts_any l) (Ev.bind (undo_any l hl' i t) ?_)))))))
  refine Ev.bind (a := l) ⟨0, fun _ _ => by unfold ledger_Entry_18.f; rw [if_pos (by omega)]⟩ (Ev.bind (a := [(⟨e0, e1, e2, e3⟩ : S35)]) (Ev.now _) (Ev.ite_pos (by simp; omega) (Ev.bind (a := l ++ [(⟨e0, e1, e2, e3⟩ : S35)]) (Ev.now _) (Ev.bind (check_ok l) (Ev.ite_pos rfl (Ev.bind (fault_ok _) ?_))))))
  rw [hA]
  by_cases u : checkV (l ++ [(⟨e0, e1, e2, e3⟩ : S35)]) = 0
  · rw [if_pos u]
    exact Ev.ite_pos u.symm (Ev.ite_pos rfl (Ev.bind (equal_ok _ (by simp; omega)) (Ev.ite_pos rfl (tells_j0 l hl' a i f t))))
  · rw [if_neg u]
    exact Ev.ite_pos rfl (Ev.ite_neg u (Ev.ite_neg (by simp) (tells_j0 l hl' a i f t)))
end Go.Proofs.Ytenhnlclnjnboaa.Pure
