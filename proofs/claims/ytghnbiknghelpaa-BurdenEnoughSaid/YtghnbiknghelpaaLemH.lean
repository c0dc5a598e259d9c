/- Plain lemmas: the faults of an issue and its evidence. -/
import Derived.Test.YtghnbiknghelpaaPAllx0
import Derived.Test.YtghnbiknghelpaaPAllx4
import Derived.Test.YtghnbiknghelpaaPAllx5
import Derived.Test.YtghnbiknghelpaaPAllx6
import Derived.Test.YtghnbiknghelpaaPAllx8
import Derived.Test.YtghnbiknghelpaaPAllx9
import Derived.Test.YtghnbiknghelpaaPAllx18
import Derived.Test.YtghnbiknghelpaaPAllx22
import Derived.Test.YtghnbiknghelpaaPAllx28
import Derived.Test.YtghnbiknghelpaaLemF
namespace Go.Proofs.Ytghnbiknghelpaa.Pure
open Go.RowKit Go.Proofs.Ytghnbiknghelpaa.PAll Go.Proofs.YtghnbiknghelpaaW.PrintWords Go.Proofs.YtghnbiknghelpaaW.PrintLast
set_option linter.unusedVariables false
set_option linter.unusedSimpArgs false

def faultP (i : Nat) (p : S34) : Int := if p.f1 < 1 ∨ p.f1 > 100 then 1 else if p.f2 < -1 ∨ p.f2 ≥ (i : Int) then 9 else 0
def faultL : Nat → List S34 → Int
  | _, [] => 0
  | i, p :: ps => if faultP i p = 0 then faultL (i + 1) ps else faultP i p
def faultV (a b c : Int) (l : List S34) : Int := if a < 0 ∨ a > 2 ∨ b < 1 ∨ b > 2 ∨ c < 1 ∨ c > 3 then 1 else if l.length > 100 then 2 else faultL 0 l
theorem fault_zero {a b c : Int} {l : List S34} (h : faultV a b c l = 0) : okI a b c ∧ okL l := by
  unfold faultV at h
  split at h
  · omega
  · split at h
    · omega
    · refine ⟨by unfold okI; omega, by omega, ?_⟩
      have key : ∀ (m : List S34) (i : Nat), faultL i m = 0 → ∀ j, j < m.length → okP (rdP m j) (i + j) := by
        intro m
        induction m with
        | nil => intro i _ j hj; simp at hj
        | cons p ps ih =>
          intro i hm j hj
          rw [faultL] at hm
          split at hm
          · rename_i hp
            cases j with
            | zero =>
              show okP p (i + 0)
              unfold faultP at hp
              split at hp
              · omega
              · split at hp
                · omega
                · unfold okP; omega
            | succ j =>
              have := ih (i + 1) hm j (by simpa using hj)
              rw [show i + (j + 1) = i + 1 + j by omega]
              exact this
          · exact absurd hm (by assumption)
      intro i hi
      have := key l 0 h i hi
      rwa [Nat.zero_add] at this
theorem checkF_l0 (l : List S34) (hn : l.length ≤ 100) : ∀ (d i : Nat), i + d = l.length → Ev (fun k => burden_Check.l0 k l (l.length : Int) (i : Int)) (faultL i (l.drop i)) := by
  intro d
  induction d with
  | zero =>
    intro i h
    rw [List.drop_of_length_le (by omega)]
    apply Ev.step
    · intro k; rw [burden_Check.l0]
    · exact Ev.ite_neg (by omega) (Ev.now _)
  | succ d ih =>
    intro i h
    have e := ih (i + 1) (by omega)
    rw [drop_cons l z34 i (by omega), faultL]
    have j2 : ∀ z : Bool, z = decide ((rdP l i).f1 < 1 ∨ (rdP l i).f1 > 100) → Ev (fun k => burden_Check.j2 k (i : Int) l (l.length : Int) (i : Int) z (rdP l i).f0 (rdP l i).f1 (rdP l i).f2) (if faultP i (rdP l i) = 0 then faultL (i + 1) (l.drop (i + 1)) else faultP i (rdP l i)) := by
      intro z hz
      apply Ev.step
      · intro k; rw [burden_Check.j2]
      · unfold faultP
        by_cases c : (rdP l i).f1 < 1 ∨ (rdP l i).f1 > 100
        · refine Ev.ite_pos (by rw [hz]; exact decide_eq_true c) (Ev.some_ ?_)
          rw [if_pos c, if_neg (by decide)]
        · refine Ev.ite_neg (by rw [hz, decide_eq_false c]; decide) ?_
          by_cases c2 : (rdP l i).f2 < -1
          · refine Ev.ite_pos c2 (Ev.some_ ?_)
            rw [if_neg c, if_pos (Or.inl c2), if_neg (by decide)]
          · refine Ev.ite_neg c2 ?_
            by_cases c3 : (rdP l i).f2 ≥ (i : Int)
            · refine Ev.ite_pos c3 (Ev.some_ ?_)
              rw [if_neg c, if_pos (Or.inr c3), if_neg (by decide)]
            · refine Ev.ite_neg c3 ?_
              rw [show wrap64 ((i : Int) + 1) = ((i + 1 : Nat) : Int) by rw [w64 (by omega) (by omega)]; omega]
              refine Ev.res ?_ e
              rw [if_neg c, if_pos (if_neg (fun q => q.elim c2 c3))]
    apply Ev.step
    · intro k; rw [burden_Check.l0]
    · refine Ev.ite_pos (by omega) (Ev.ite_pos (by omega) (Ev.ite_pos (by omega) ?_))
      simp only [rd_nat]
      by_cases c : (rdP l i).f1 < 1
      · exact Ev.ite_pos c (j2 true (decide_eq_true (Or.inl c)).symm)
      · refine Ev.ite_neg c (j2 (decide ((rdP l i).f1 > 100)) ?_)
        by_cases c9 : (rdP l i).f1 > 100
        · rw [decide_eq_true c9, decide_eq_true (Or.inr c9)]
        · rw [decide_eq_false c9, decide_eq_false (fun q => q.elim c c9)]
theorem check_fault (a b c : Int) (l : List S34) : Ev (fun k => burden_Check.f k a b c l) (faultV a b c l) := by
  have j0 : ∀ z : Bool, Ev (fun k => burden_Check.j0 k l z) (if z = true then 1 else if l.length > 100 then 2 else faultL 0 l) := by
    intro z
    apply Ev.step
    · intro k; rw [burden_Check.j0]
    · by_cases cz : z = true
      · exact Ev.res (if_pos cz) (Ev.ite_pos cz (Ev.now _))
      · refine Ev.res (if_neg cz) (Ev.ite_neg cz ?_)
        by_cases cl : l.length > 100
        · exact Ev.res (if_pos cl) (Ev.ite_pos (by omega) (Ev.now _))
        · refine Ev.res (if_neg cl) (Ev.ite_neg (by omega) ?_)
          have e := checkF_l0 l (by omega) l.length 0 (by omega)
          simpa using e
  unfold burden_Check.f faultV
  by_cases c1 : a < 0
  · exact Ev.res (if_pos (by omega)) (Ev.ite_pos c1 (j0 true))
  · refine Ev.ite_neg c1 ?_
    by_cases c2 : a > 2
    · exact Ev.res (if_pos (by omega)) (Ev.ite_pos c2 (j0 true))
    · refine Ev.ite_neg c2 ?_
      by_cases c3 : b < 1
      · exact Ev.res (if_pos (by omega)) (Ev.ite_pos c3 (j0 true))
      · refine Ev.ite_neg c3 ?_
        by_cases c4 : b > 2
        · exact Ev.res (if_pos (by omega)) (Ev.ite_pos c4 (j0 true))
        · refine Ev.ite_neg c4 ?_
          by_cases c5 : c < 1
          · exact Ev.res (if_pos (by omega)) (Ev.ite_pos c5 (j0 true))
          · refine Ev.ite_neg c5 ?_
            by_cases c6 : c > 3
            · refine Ev.res (if_pos (by omega)) ?_; rw [decide_eq_true c6]; exact j0 true
            · refine Ev.res (if_neg (by omega)) ?_; rw [decide_eq_false c6]; exact j0 false
theorem find_fault (a b c : Int) (l : List S34) (h : faultV a b c l ≠ 0) : Ev (fun k => burden_Find.f k a b c l) (false, 0, faultV a b c l) := by
  have h1 : Ev (fun k => burden_Standing.f k a b c l) ([], faultV a b c l) := by
    unfold burden_Standing.f
    exact Ev.bind (check_fault a b c l) (Ev.ite_neg h (Ev.now _))
  have h2 : Ev (fun k => burden_Sums.f k a b c l) (0, 0, faultV a b c l) := by
    unfold burden_Sums.f
    exact Ev.bind h1 (Ev.ite_neg h (Ev.now _))
  have h3 : Ev (fun k => burden_Proof.f k a b c l) (0, faultV a b c l) := by
    unfold burden_Proof.f
    exact Ev.bind h2 (Ev.ite_neg h (Ev.now _))
  unfold burden_Find.f
  exact Ev.bind h3 (Ev.ite_neg h (Ev.now _))
theorem issueFault_l0 (l : List S34) (hn : l.length ≤ 100) : ∀ (d i : Nat), i + d = l.length → Ev (fun k => mootlaw4_issueFault.l0 k l (l.length : Int) (i : Int)) (faultL i (l.drop i)) := by
  intro d
  induction d with
  | zero =>
    intro i h
    rw [List.drop_of_length_le (by omega)]
    apply Ev.step
    · intro k; rw [mootlaw4_issueFault.l0]
    · exact Ev.ite_neg (by omega) (Ev.now _)
  | succ d ih =>
    intro i h
    have e := ih (i + 1) (by omega)
    rw [drop_cons l z34 i (by omega), faultL]
    have j2 : ∀ z : Bool, z = decide ((rdP l i).f1 < 1 ∨ (rdP l i).f1 > 100) → Ev (fun k => mootlaw4_issueFault.j2 k (i : Int) l (l.length : Int) (i : Int) z (rdP l i).f0 (rdP l i).f1 (rdP l i).f2) (if faultP i (rdP l i) = 0 then faultL (i + 1) (l.drop (i + 1)) else faultP i (rdP l i)) := by
      intro z hz
      apply Ev.step
      · intro k; rw [mootlaw4_issueFault.j2]
      · unfold faultP
        by_cases c : (rdP l i).f1 < 1 ∨ (rdP l i).f1 > 100
        · refine Ev.ite_pos (by rw [hz]; exact decide_eq_true c) (Ev.some_ ?_)
          rw [if_pos c, if_neg (by decide)]
        · refine Ev.ite_neg (by rw [hz, decide_eq_false c]; decide) ?_
          by_cases c2 : (rdP l i).f2 < -1
          · refine Ev.ite_pos c2 (Ev.some_ ?_)
            rw [if_neg c, if_pos (Or.inl c2), if_neg (by decide)]
          · refine Ev.ite_neg c2 ?_
            by_cases c3 : (rdP l i).f2 ≥ (i : Int)
            · refine Ev.ite_pos c3 (Ev.some_ ?_)
              rw [if_neg c, if_pos (Or.inr c3), if_neg (by decide)]
            · refine Ev.ite_neg c3 ?_
              rw [show wrap64 ((i : Int) + 1) = ((i + 1 : Nat) : Int) by rw [w64 (by omega) (by omega)]; omega]
              refine Ev.res ?_ e
              rw [if_neg c, if_pos (if_neg (fun q => q.elim c2 c3))]
    apply Ev.step
    · intro k; rw [mootlaw4_issueFault.l0]
    · refine Ev.ite_pos (by omega) (Ev.ite_pos (by omega) (Ev.ite_pos (by omega) ?_))
      simp only [rd_nat]
      by_cases c : (rdP l i).f1 < 1
      · exact Ev.ite_pos c (j2 true (decide_eq_true (Or.inl c)).symm)
      · refine Ev.ite_neg c (j2 (decide ((rdP l i).f1 > 100)) ?_)
        by_cases c9 : (rdP l i).f1 > 100
        · rw [decide_eq_true c9, decide_eq_true (Or.inr c9)]
        · rw [decide_eq_false c9, decide_eq_false (fun q => q.elim c c9)]
theorem issueFault_ok (a b c : Int) (l : List S34) : Ev (fun k => mootlaw4_issueFault.f k a b c l) (faultV a b c l) := by
  have j0 : ∀ z : Bool, Ev (fun k => mootlaw4_issueFault.j0 k l z) (if z = true then 1 else if l.length > 100 then 2 else faultL 0 l) := by
    intro z
    apply Ev.step
    · intro k; rw [mootlaw4_issueFault.j0]
    · by_cases cz : z = true
      · exact Ev.res (if_pos cz) (Ev.ite_pos cz (Ev.now _))
      · refine Ev.res (if_neg cz) (Ev.ite_neg cz ?_)
        by_cases cl : l.length > 100
        · exact Ev.res (if_pos cl) (Ev.ite_pos (by omega) (Ev.now _))
        · refine Ev.res (if_neg cl) (Ev.ite_neg (by omega) ?_)
          have e := issueFault_l0 l (by omega) l.length 0 (by omega)
          simpa using e
  have tail : ¬ (a < 0 ∨ a > 2 ∨ b < 1 ∨ b > 2) → Ev (fun k => if c < 1 then mootlaw4_issueFault.j0 k l true else mootlaw4_issueFault.j0 k l (decide (c > 3))) (faultV a b c l) := by
    intro h
    unfold faultV
    by_cases c5 : c < 1
    · exact Ev.res (if_pos (by omega)) (Ev.ite_pos c5 (j0 true))
    · refine Ev.ite_neg c5 ?_
      by_cases c6 : c > 3
      · refine Ev.res (if_pos (by omega)) ?_; rw [decide_eq_true c6]; exact j0 true
      · refine Ev.res (if_neg (by omega)) ?_; rw [decide_eq_false c6]; exact j0 false
  unfold mootlaw4_issueFault.f
  by_cases c1 : a < 0
  · refine Ev.res (show faultV a b c l = 1 by unfold faultV; rw [if_pos (by omega)]) (Ev.ite_pos c1 (j0 true))
  · refine Ev.ite_neg c1 ?_
    by_cases c2 : a > 2
    · refine Ev.res (show faultV a b c l = 1 by unfold faultV; rw [if_pos (by omega)]) (Ev.ite_pos c2 (j0 true))
    · refine Ev.ite_neg c2 ?_
      by_cases c3 : b = 1
      · exact Ev.ite_pos c3 (tail (by omega))
      · refine Ev.ite_neg c3 ?_
        by_cases c4 : b = 2
        · exact Ev.ite_pos c4 (tail (by omega))
        · exact Ev.ite_neg c4 (Ev.res (show faultV a b c l = 1 by unfold faultV; rw [if_pos (by omega)]) (j0 true))
/-- Where no weight is enough, each is tried. -/
theorem enough_none (a b c : Int) (l : List S34) (hi : okI a b c) (hL : okL l) (hn : l.length < 100) (h : Ev (fun k => burden_Enough.l0 k l 1 a b c) (0, 18)) : ∀ u : Int, 1 ≤ u → u ≤ 100 → withW a b c l u = false := by
  have key : ∀ (n : Nat) (w : Int), w + n = 101 → 1 ≤ w → Ev (fun k => burden_Enough.l0 k l w a b c) (0, 18) → ∀ u, w ≤ u → u ≤ 100 → withW a b c l u = false := by
    intro n
    induction n with
    | zero => intro w h1 h2 h3 u h4 h5; omega
    | succ n ih =>
      intro w h1 h2 h3 u h4 h5
      obtain ⟨r, f1, f2, f3⟩ := find_with a b c l hi hL hn w h2 (by omega)
      obtain ⟨K, hK⟩ := h3
      obtain ⟨K2, hK2⟩ := f1
      replace hK : ∀ k, K ≤ k → burden_Enough.l0 k l w a b c = some (0, 18) := hK
      have hstep : ∀ k, K ≤ k + 1 → K2 ≤ k → burden_Enough.l0 (k + 1) l w a b c = (if r.1 = true then some (w, 0) else burden_Enough.l0 k l (w + 1) a b c) := by
        intro k _ hk
        rw [burden_Enough.l0, if_pos (show w ≤ 100 by omega), burden_Piece.f, if_pos (show l.length < 5864062014805 by omega)]
        simp only [Option.bind_some]
        rw [if_pos (by simp; omega), show burden_Find.f k a b c (l ++ [(⟨true, w, -1⟩ : S34)]) = some r from hK2 k hk, w64 (by omega) (by omega)]
        rfl
      have hw : withW a b c l w = false := by
        rw [← f2]
        cases hr : r.1 with
        | false => rfl
        | true =>
          have e := hstep (max K K2) (by omega) (by omega)
          rw [hK _ (by omega), if_pos hr] at e
          have := congrArg (Option.map Prod.snd) e
          simp at this
      by_cases cu : u = w
      · rw [cu]; exact hw
      · refine ih (w + 1) (by omega) (by omega) ⟨max K K2, fun k hk => ?_⟩ u (by omega) h5
        have e := hstep k (by omega) (by omega)
        rw [hK _ (by omega), if_neg (by rw [f2, hw]; decide)] at e
        exact e.symm
  intro u h1 h2
  exact key 100 1 (by omega) (by omega) h u h1 h2
end Go.Proofs.Ytghnbiknghelpaa.Pure
