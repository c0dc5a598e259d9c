/- Plain lemmas: what a further piece of evidence does; the least weight that is enough. -/
import Derived.Test.YtghnbiknghelpaaPAllx0
import Derived.Test.YtghnbiknghelpaaPAllx9
import Derived.Test.YtghnbiknghelpaaPAllx18
import Derived.Test.YtghnbiknghelpaaPAllx28
import Derived.Test.YtghnbiknghelpaaLemB
namespace Go.Proofs.Ytghnbiknghelpaa.Pure
open Go.RowKit Go.Proofs.Ytghnbiknghelpaa.PAll Go.Proofs.YtghnbiknghelpaaW.PrintWords Go.Proofs.YtghnbiknghelpaaW.PrintLast
set_option linter.unusedVariables false
set_option linter.unusedSimpArgs false

theorem findL_e (a b v : Int) : (findV a b v).2.2 = 0 := by unfold findV; by_cases h : v = 2 <;> by_cases h2 : a = 2 <;> simp [h, h2]
/-- Is it found true with a further piece of this weight? -/
def withW (a b c : Int) (l : List S34) (w : Int) : Bool := (findV a b (proofV (yesS l (stand 0 l) + w) (noS l (stand 0 l)) c)).1
theorem find_with (a b c : Int) (l : List S34) (hi : okI a b c) (hL : okL l) (hn : l.length < 100) (w : Int) (h1 : 1 ≤ w) (h2 : w ≤ 100) :
    ∃ r, Ev (fun k => burden_Find.f k a b c (l ++ [(⟨true, w, -1⟩ : S34)])) r ∧ r.1 = withW a b c l w ∧ r.2.2 = 0 := by
  have hL2 : okL (l ++ [(⟨true, w, -1⟩ : S34)]) := okL_snoc hL hn ⟨by simp only; omega, by simp only; omega, by simp only; omega, by simp only; omega⟩
  have f2 := find_ok a b c _ hi hL2
  rw [stand_snoc _ rfl] at f2
  have hs := yes_snoc ⟨true, w, -1⟩ l (stand 0 l) (stand_len l 0)
  rw [hs.1, hs.2] at f2
  simp only [if_true, Int.add_zero] at f2
  exact ⟨_, f2, rfl, findL_e _ _ _⟩
theorem enough_l0 (a b c : Int) (l : List S34) (hi : okI a b c) (hL : okL l) (hn : l.length < 100) : ∀ (n : Nat) (w : Int), w + n = 101 → 1 ≤ w → (∀ u, 1 ≤ u → u < w → withW a b c l u = false) →
    ∃ r, Ev (fun k => burden_Enough.l0 k l w a b c) r ∧ ((r.2 = 0 ∧ 1 ≤ r.1 ∧ r.1 ≤ 100 ∧ withW a b c l r.1 = true ∧ ∀ u, 1 ≤ u → u < r.1 → withW a b c l u = false) ∨ (r = (0, 18))) := by
  intro n
  induction n with
  | zero =>
    intro w h h1 hu
    refine ⟨(0, 18), ?_, Or.inr rfl⟩
    apply Ev.step
    · intro k; rw [burden_Enough.l0]
    · exact Ev.ite_neg (by omega) (Ev.now _)
  | succ n ih =>
    intro w h h1 hu
    obtain ⟨r, f1, f2, f3⟩ := find_with a b c l hi hL hn w h1 (by omega)
    by_cases cw : withW a b c l w = true
    · refine ⟨(w, 0), ?_, Or.inl ⟨rfl, h1, by simp only; omega, cw, hu⟩⟩
      apply Ev.step
      · intro k; rw [burden_Enough.l0]
      · refine Ev.ite_pos (by omega) ?_
        simp only [burden_Piece.f]
        rw [if_pos (by omega)]
        simp only [Option.bind_some]
        refine Ev.ite_pos (by simp; omega) (Ev.bind f1 (Ev.ite_pos (by rw [f2]; exact cw) (Ev.now _)))
    · obtain ⟨r', g1, g2⟩ := ih (w + 1) (by omega) (by omega) (fun u u1 u2 => by
        by_cases e : u = w
        · subst e; simpa using cw
        · exact hu u u1 (by omega))
      refine ⟨r', ?_, g2⟩
      apply Ev.step
      · intro k; rw [burden_Enough.l0]
      · refine Ev.ite_pos (by omega) ?_
        simp only [burden_Piece.f]
        rw [if_pos (by omega)]
        simp only [Option.bind_some]
        refine Ev.ite_pos (by simp; omega) (Ev.bind f1 (Ev.ite_neg (by rw [f2]; exact cw) ?_))
        rw [w64 (by omega) (by omega)]
        exact g1
end Go.Proofs.Ytghnbiknghelpaa.Pure
