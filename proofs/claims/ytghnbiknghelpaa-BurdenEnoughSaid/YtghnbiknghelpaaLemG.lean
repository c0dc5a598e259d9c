/- Plain lemmas: the opposite claim. -/
import Derived.Test.YtghnbiknghelpaaPAllx0
import Derived.Test.YtghnbiknghelpaaPAllx18
import Derived.Test.YtghnbiknghelpaaPAllx19
import Derived.Test.YtghnbiknghelpaaLemB
namespace Go.Proofs.Ytghnbiknghelpaa.Pure
open Go.RowKit Go.Proofs.Ytghnbiknghelpaa.PAll Go.Proofs.YtghnbiknghelpaaW.PrintWords Go.Proofs.YtghnbiknghelpaaW.PrintLast
set_option linter.unusedVariables false
set_option linter.unusedSimpArgs false

def flip1 (p : S34) : S34 := ⟨!p.f0, p.f1, p.f2⟩
theorem turn_l0 (a b c : Int) (l : List S34) (hn : l.length ≤ 5864062014634) : ∀ (d i : Nat) (x : List S34), i + d = l.length → x = (l.take i).map flip1 ++ l.drop i →
    Ev (fun k => burden_Turn.l0 k x (l.length : Int) (i : Int) a b c) (a, b, c, l.map flip1) := by
  intro d
  induction d with
  | zero =>
    intro i x h hx
    apply Ev.step
    · intro k; rw [burden_Turn.l0]
    · refine Ev.ite_neg (by omega) (Ev.some_ ?_)
      rw [hx, List.take_of_length_le (by omega), List.drop_of_length_le (by omega), List.append_nil]
  | succ d ih =>
    intro i x h hx
    have hl : x.length = l.length := by rw [hx]; simp; omega
    have hi : i < l.length := by omega
    apply Ev.step
    · intro k; rw [burden_Turn.l0]
    · refine Ev.ite_pos (by omega) (Ev.ite_pos (by omega) (Ev.ite_pos (by omega) ?_))
      rw [show wrap64 ((i : Int) + 1) = ((i + 1 : Nat) : Int) by rw [w64 (by omega) (by omega)]; omega]
      refine ih (i + 1) _ (by omega) ?_
      have hr : rd_T34 x (i : Int) = l[i] := by
        rw [rd_nat, rdP, hx, List.getD_eq_getElem?_getD, List.getElem?_append_right (by simp; omega)]
        simp [List.getElem?_drop, show i - min i l.length = 0 by omega, hi]
      rw [hr, hx, Int.toNat_natCast]
      rw [List.set_append_right _ _ (by simp; omega)]
      simp only [List.length_map, List.length_take]
      rw [show i - min i l.length = 0 by omega, List.drop_eq_getElem_cons hi, List.set_cons_zero, List.take_succ_eq_append_getElem hi, List.map_append, List.append_assoc]
      rfl
def turnA (a : Int) : Int := if a = 0 ∨ a = 1 then 1 - a else a
theorem turn_all (a b c : Int) (l : List S34) (hn : l.length ≤ 5864062014634) : Ev (fun k => burden_Turn.f k a b c l) (turnA a, wrap64 (3 - b), c, l.map flip1) := by
  have e : ∀ a', Ev (fun k => burden_Turn.j1 k l a' b c) (a', wrap64 (3 - b), c, l.map flip1) := by
    intro a'
    apply Ev.step
    · intro k; rw [burden_Turn.j1]
    · simp only [burden_Piece.f]
      rw [if_pos (by omega)]
      exact turn_l0 a' (wrap64 (3 - b)) c l hn l.length 0 l (by omega) (by simp)
  unfold burden_Turn.f turnA
  by_cases c1 : a = 0
  · refine Ev.ite_pos c1 ?_
    rw [if_pos (Or.inl c1)]
    apply Ev.step
    · intro k; rw [burden_Turn.j0]
    · refine Ev.ite_pos rfl ?_
      rw [w64 (a := 1 - a) (by omega) (by omega)]
      exact e _
  · refine Ev.ite_neg c1 ?_
    by_cases c2 : a = 1
    · rw [if_pos (Or.inr c2)]
      apply Ev.step
      · intro k; rw [burden_Turn.j0]
      · refine Ev.ite_pos (by simp [c2]) ?_
        rw [w64 (a := 1 - a) (by omega) (by omega)]
        exact e _
    · rw [if_neg (by omega)]
      apply Ev.step
      · intro k; rw [burden_Turn.j0]
      · exact Ev.ite_neg (by simp [c2]) (e _)
theorem turn_ok (a b c : Int) (l : List S34) (hi : okI a b c) (hn : l.length ≤ 100) : Ev (fun k => burden_Turn.f k a b c l) (turnA a, 3 - b, c, l.map flip1) := by
  obtain ⟨h1, h2, h3, h4, h5, h6⟩ := hi
  have := turn_all a b c l (by omega)
  rw [w64 (by omega) (by omega)] at this
  exact this
theorem stand_flip (l : List S34) : ∀ k, stand k (l.map flip1) = stand k l := by
  induction l with
  | nil => intro k; rfl
  | cons p ps ih =>
    intro k
    simp only [List.map_cons, stand, ih]
    congr 2
    have : ∀ (x : List S34) (y : List Bool) (w : Int), ((x.map flip1).zip y).any (hits k w) = (x.zip y).any (hits k w) := by
      intro x
      induction x with
      | nil => intro y w; rfl
      | cons q qs ih2 =>
        intro y w
        cases y with
        | nil => rfl
        | cons b bs => simp only [List.map_cons, List.zip_cons_cons, List.any_cons, ih2]; rfl
    exact this _ _ _
theorem yes_flip (l : List S34) : ∀ x : List Bool, yesS (l.map flip1) x = noS l x ∧ noS (l.map flip1) x = yesS l x := by
  induction l with
  | nil => intro x; simp [yesS, noS]
  | cons p ps ih =>
    intro x
    cases x with
    | nil => simp [yesS, noS]
    | cons b bs =>
      simp only [List.map_cons, yesS, noS, (ih bs).1, (ih bs).2]
      cases b <;> cases h : p.f0 <;> simp [flip1, h]
theorem okL_flip {l : List S34} (h : okL l) : okL (l.map flip1) := by
  refine ⟨by simpa using h.1, fun i hi => ?_⟩
  have hi' : i < l.length := by simpa using hi
  have := h.2 i hi'
  have e : rdP (l.map flip1) i = flip1 (rdP l i) := by simp [rdP, List.getD_eq_getElem?_getD, hi']
  rw [e]
  exact this
theorem meets_not (y n s : Int) (hy : 0 ≤ y) (hn : 0 ≤ n) (h1 : meetsB y n s = true) : meetsB n y s = false := by
  unfold meetsB at *
  by_cases c1 : s = 1
  · rw [if_pos c1] at *; simp at *; omega
  · rw [if_neg c1] at *
    by_cases c2 : s = 2
    · rw [if_pos c2] at *; simp at *; omega
    · rw [if_neg c2] at *; simp at *; omega
end Go.Proofs.Ytghnbiknghelpaa.Pure
