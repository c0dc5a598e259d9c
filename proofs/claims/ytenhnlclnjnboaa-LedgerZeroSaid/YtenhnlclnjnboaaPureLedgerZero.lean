/- On each day all balances sum to 0, and a balance is what came in less what went out: for every list of raw numbers and every raw day. -/
import Derived.Test.YtenhnlclnjnboaaPAllx0
import Derived.Test.YtenhnlclnjnboaaPAllx8
import Derived.Test.YtenhnlclnjnboaaPAllx11
import Derived.Test.YtenhnlclnjnboaaPAllx12
import Derived.Test.YtenhnlclnjnboaaLemC
namespace Go.Proofs.Ytenhnlclnjnboaa.Pure
open Go.RowKit Go.Proofs.Ytenhnlclnjnboaa.PAll Go.Proofs.YtenhnlclnjnboaaW.PrintWords Go.Proofs.YtenhnlclnjnboaaW.PrintLast
set_option linter.unusedVariables false
set_option linter.unusedSimpArgs false

def effIn (a f t : Int) (e : S35) : Int := if e.f0 < f ∨ e.f0 ≥ t then 0 else if e.f2 = a then e.f3 else 0
def effOut (a f t : Int) (e : S35) : Int := if e.f0 < f ∨ e.f0 ≥ t then 0 else if e.f2 = a then 0 else if e.f1 = a then e.f3 else 0
def tin (a f t : Int) : List S35 → Int
  | [] => 0
  | e :: es => effIn a f t e + tin a f t es
def tout (a f t : Int) : List S35 → Int
  | [] => 0
  | e :: es => effOut a f t e + tout a f t es
theorem turnover_l0 (l : List S35) (hn : l.length ≤ 2000) (hl : ∀ e ∈ l, 0 ≤ e.f3 ∧ e.f3 ≤ 1099511627776) (a f t : Int) : ∀ (n i : Nat) (x y : Int), i + n = l.length → 0 ≤ x → x ≤ 1099511627776 * i → 0 ≤ y → y ≤ 1099511627776 * i →
    Ev (fun k => ledger_Turnover.l0 k a f t x y l (l.length : Int) (i : Int)) (x + tin a f t (l.drop i), y + tout a f t (l.drop i), 0) := by
  intro n
  induction n with
  | zero =>
    intro i x y h h1 h2 h3 h4
    rw [List.drop_of_length_le (by omega)]
    apply Ev.step
    · intro k; rw [ledger_Turnover.l0]
    · exact Ev.ite_neg (by omega) (Ev.some_ (by simp [tin, tout]))
  | succ n ih =>
    intro i x y h h1 h2 h3 h4
    have hm : rdE l i ∈ l := by
      have : rdE l i = l[i]'(by omega) := by simp [rdE, List.getD_eq_getElem?_getD, show i < l.length by omega]
      rw [this]; exact List.getElem_mem _
    obtain ⟨b1, b2⟩ := hl _ hm
    have hw : wrap64 ((i : Int) + 1) = ((i + 1 : Nat) : Int) := by rw [w64 (by omega) (by omega)]; omega
    rw [drop_cons l z35 i (by omega), tin, tout]
    have j2 : ∀ b : Bool, b = decide ((rdE l i).f0 < f ∨ (rdE l i).f0 ≥ t) → Ev (fun k => ledger_Turnover.j2 k a f t x y l (l.length : Int) (i : Int) b (rdE l i).f0 (rdE l i).f1 (rdE l i).f2 (rdE l i).f3)
        (x + (effIn a f t (rdE l i) + tin a f t (l.drop (i + 1))), y + (effOut a f t (rdE l i) + tout a f t (l.drop (i + 1))), 0) := by
      intro b hb
      apply Ev.step
      · intro k; rw [ledger_Turnover.j2]
      · rw [hw]
        by_cases c : (rdE l i).f0 < f ∨ (rdE l i).f0 ≥ t
        · refine Ev.ite_pos (by rw [hb]; exact decide_eq_true c) (Ev.res ?_ (ih (i + 1) x y (by omega) (by omega) (by omega) (by omega) (by omega)))
          unfold effIn effOut; rw [if_pos c, if_pos c]; simp
        · refine Ev.ite_neg (by rw [hb, decide_eq_false c]; decide) ?_
          by_cases c2 : (rdE l i).f2 = a
          · refine Ev.ite_pos c2 ?_
            rw [w64 (by omega) (by omega)]
            refine Ev.res ?_ (ih (i + 1) (x + (rdE l i).f3) y (by omega) (by omega) (by omega) (by omega) (by omega))
            unfold effIn effOut; rw [if_neg c, if_neg c, if_pos c2, if_pos c2]; simp [Int.add_assoc]
          · refine Ev.ite_neg c2 ?_
            by_cases c3 : (rdE l i).f1 = a
            · refine Ev.ite_pos c3 ?_
              rw [w64 (by omega) (by omega)]
              refine Ev.res ?_ (ih (i + 1) x (y + (rdE l i).f3) (by omega) (by omega) (by omega) (by omega) (by omega))
              unfold effIn effOut; rw [if_neg c, if_neg c, if_neg c2, if_neg c2, if_pos c3]; simp [Int.add_assoc]
            · refine Ev.ite_neg c3 (Ev.res ?_ (ih (i + 1) x y (by omega) (by omega) (by omega) (by omega) (by omega)))
              unfold effIn effOut; rw [if_neg c, if_neg c, if_neg c2, if_neg c2, if_neg c3]; simp
    apply Ev.step
    · intro k; rw [ledger_Turnover.l0]
    · refine Ev.ite_pos (by omega) (Ev.ite_pos (by omega) (Ev.ite_pos (by omega) ?_))
      simp only [rd_nat]
      by_cases c : (rdE l i).f0 < f
      · exact Ev.ite_pos c (j2 true (decide_eq_true (Or.inl c)).symm)
      · refine Ev.ite_neg c (j2 (decide ((rdE l i).f0 ≥ t)) ?_)
        by_cases h9 : (rdE l i).f0 ≥ t
        · rw [decide_eq_true h9, decide_eq_true (Or.inr h9)]
        · rw [decide_eq_false h9, decide_eq_false (fun z => z.elim c h9)]
theorem turnover_ok (l : List S35) (a f t : Int) (h : checkV l = 0) (h0 : 0 ≤ a) (h1 : a < 100) : Ev (fun k => ledger_Turnover.f k l a f t) (tin a f t l, tout a f t l, 0) := by
  obtain ⟨hn, ha⟩ := check_all h
  unfold ledger_Turnover.f
  have hc := check_ok l
  rw [h] at hc
  refine Ev.bind hc (Ev.ite_pos rfl (Ev.ite_neg (by omega) ?_))
  apply Ev.step
  · intro k; rw [ledger_Turnover.j0]
  · refine Ev.ite_neg (by simp; omega) ?_
    have e := turnover_l0 l hn (fun x hx => by have := one_day x (ha x hx); omega) a f t l.length 0 0 0 (by omega) (by omega) (by omega) (by omega) (by omega)
    simpa using e
theorem in_out (a d : Int) (l : List S35) (h : ∀ e ∈ l, 0 ≤ e.f0) : bal a d l = tin a 0 (d + 1) l - tout a 0 (d + 1) l := by
  induction l with
  | nil => rfl
  | cons e es ih =>
    have h0 := h e (by simp)
    have h1 := ih (fun x hx => h x (by simp [hx]))
    simp only [bal, tin, tout, h1]
    have : eff a d e = effIn a 0 (d + 1) e - effOut a 0 (d + 1) e := by
      unfold eff effIn effOut
      by_cases c : e.f0 > d
      · have q : e.f0 < 0 ∨ e.f0 ≥ d + 1 := by omega
        rw [if_pos c, if_pos q, if_pos q]; rfl
      · have q : ¬ (e.f0 < 0 ∨ e.f0 ≥ d + 1) := by omega
        rw [if_neg c, if_neg q, if_neg q]
        by_cases c2 : e.f2 = a
        · rw [if_pos c2, if_pos c2, if_pos c2]; omega
        · rw [if_neg c2, if_neg c2, if_neg c2]
          by_cases c3 : e.f1 = a
          · rw [if_pos c3, if_pos c3]; omega
          · rw [if_neg c3, if_neg c3]; omega
    omega
theorem tin_bd (a f t B : Int) (l : List S35) (h : ∀ e ∈ l, 0 ≤ e.f3 ∧ e.f3 ≤ B) : 0 ≤ tin a f t l ∧ tin a f t l ≤ B * l.length ∧ 0 ≤ tout a f t l ∧ tout a f t l ≤ B * l.length := by
  induction l with
  | nil => simp [tin, tout]
  | cons e es ih =>
    have h0 := h e (by simp)
    have h2 := ih (fun x hx => h x (by simp [hx]))
    simp only [tin, tout, List.length_cons]
    have : B * ((es.length + 1 : Nat) : Int) = B * es.length + B := by rw [Int.natCast_add, Int.mul_add]; simp
    have h3 : 0 ≤ effIn a f t e ∧ effIn a f t e ≤ B := by unfold effIn; (split; omega; split <;> omega)
    have h4 : 0 ≤ effOut a f t e ∧ effOut a f t e ≤ B := by unfold effOut; (split; omega; split; omega; split <;> omega)
    omega
def balsTo (d : Int) (l : List S35) : Nat → Int
  | 0 => 0
  | n + 1 => balsTo d l n + bal (n : Int) d l
theorem bals_zero (d : Int) (l : List S35) (h : ∀ e ∈ l, madeE e) : balsTo d l 6 = 0 := by
  simp only [balsTo]
  induction l with
  | nil => simp [bal]
  | cons e es ih =>
    have h1 := ih (fun x hx => h x (by simp [hx]))
    obtain ⟨_, _, a1, a2, a3, a4, a5, _, _⟩ := h e (by simp)
    simp only [bal]
    have : eff ((0 : Nat) : Int) d e + eff ((1 : Nat) : Int) d e + eff ((2 : Nat) : Int) d e + eff ((3 : Nat) : Int) d e + eff ((4 : Nat) : Int) d e + eff ((5 : Nat) : Int) d e = 0 := by
      unfold eff
      by_cases c : e.f0 > d
      · simp [c]
      · have b1 : e.f1 = 0 ∨ e.f1 = 1 ∨ e.f1 = 2 ∨ e.f1 = 3 ∨ e.f1 = 4 ∨ e.f1 = 5 := by omega
        have b2 : e.f2 = 0 ∨ e.f2 = 1 ∨ e.f2 = 2 ∨ e.f2 = 3 ∨ e.f2 = 4 ∨ e.f2 = 5 := by omega
        rcases b1 with b1 | b1 | b1 | b1 | b1 | b1 <;> rcases b2 with b2 | b2 | b2 | b2 | b2 | b2 <;> first | (exfalso; omega) | (simp [c, b1, b2]; try omega)
    omega
theorem zero_l0 (x : List S35) (hx : x.length ≤ 11) (hm : ∀ e ∈ x, madeE e) (hc : checkV x = 0) (on r : Int) (hr : mootmake_Day.f on = some (700000 + r)) (r0 : 0 ≤ r) (r1 : r < 40000) : ∀ (n i : Nat), i + n = 6 →
    Ev (fun k => mootkeep4_LedgerZero.l0 k on x (balsTo (700000 + r) x i) (i : Int)) true := by
  have hb : ∀ e ∈ x, 0 ≤ e.f3 ∧ e.f3 ≤ 500 := fun e he => by have := hm e he; unfold madeE at this; omega
  intro n
  induction n with
  | zero =>
    intro i h
    obtain rfl : i = 6 := by omega
    rw [bals_zero _ x hm]
    apply Ev.step
    · intro k; rw [mootkeep4_LedgerZero.l0]
    · exact Ev.ite_neg (by omega) (Ev.now _)
  | succ n ih =>
    intro i h
    have e := ih (i + 1) (by omega)
    have hbd : ∀ a, -5500 ≤ bal a (700000 + r) x ∧ bal a (700000 + r) x ≤ 5500 := by
      intro a
      have := bal_bd a (700000 + r) 500 x hb
      omega
    have hs : ∀ m : Nat, -(5500 * (m : Int)) ≤ balsTo (700000 + r) x m ∧ balsTo (700000 + r) x m ≤ 5500 * m := by
      intro m
      induction m with
      | zero => simp [balsTo]
      | succ m ihm => have := hbd (m : Int); simp only [balsTo]; omega
    have hs' := hs i
    have hb' := hbd (i : Int)
    have ht := tin_bd (i : Int) 0 (700000 + r + 1) 500 x hb
    apply Ev.step
    · intro k; rw [mootkeep4_LedgerZero.l0]
    · refine Ev.ite_pos (by omega) ?_
      simp only [hr, Option.bind_some]
      refine Ev.bind (balance_ok x (i : Int) (700000 + r) hc (by omega) (by omega)) ?_
      rw [w64 (a := 700000 + r + 1) (by omega) (by omega)]
      refine Ev.bind (turnover_ok x (i : Int) 0 (700000 + r + 1) hc (by omega) (by omega)) ?_
      refine Ev.ite_pos rfl (Ev.ite_pos rfl (Ev.ite_pos ?_ ?_))
      · simp only
        rw [w64 (by omega) (by omega)]
        exact in_out _ _ x (fun e he => by have := (hm e he).1; omega)
      · simp only
        rw [w64 (a := balsTo (700000 + r) x i + bal (i : Int) (700000 + r) x) (by omega) (by omega), show wrap64 ((i : Int) + 1) = ((i + 1 : Nat) : Int) by rw [w64 (by omega) (by omega)]; omega]
        exact e
theorem LedgerZero : mootkeep4_LedgerZero.Pure := by
  intro l0 a1 _ _ hl h1
  obtain ⟨y, hy, hn, hm, hc⟩ := entries_ok l0 hl
  have q := wf_bd h1
  obtain ⟨r, hr, r0, r1⟩ := day_ok a1 q.1 q.2
  refine Ev.rounds ?_
  unfold mootkeep4_LedgerZero.f
  refine Ev.bind posted_ok (Ev.ite_pos rfl (Ev.bind hy ?_))
  exact zero_l0 y hn hm hc a1 r hr r0 r1 6 0 (by omega)
end Go.Proofs.Ytenhnlclnjnboaa.Pure
