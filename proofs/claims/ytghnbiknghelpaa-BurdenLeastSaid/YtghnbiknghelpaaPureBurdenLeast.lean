/- With the least weight that is enough a claim is found true, and with less it is not: for every list of raw numbers. -/
import Derived.Test.YtghnbiknghelpaaPAllx0
import Derived.Test.YtghnbiknghelpaaPAllx7
import Derived.Test.YtghnbiknghelpaaPAllx16
import Derived.Test.YtghnbiknghelpaaPAllx26
import Derived.Test.YtghnbiknghelpaaPAllx27
import Derived.Test.YtghnbiknghelpaaLemB
namespace Go.Proofs.Ytghnbiknghelpaa.Pure
open Go.RowKit Go.Proofs.Ytghnbiknghelpaa.PAll Go.Proofs.YtghnbiknghelpaaW.PrintWords Go.Proofs.YtghnbiknghelpaaW.PrintLast
set_option linter.unusedVariables false
set_option linter.unusedSimpArgs false

theorem findL_e (a b v : Int) : (findV a b v).2.2 = 0 := by unfold findV; by_cases h : v = 2 <;> by_cases h2 : a = 2 <;> simp [h, h2]
/-- Is it found true with a further piece of this weight? -/
def withW (a b c : Int) (l : List S34) (w : Int) : Bool := (findV a b (proofV (yesS l (stand 0 l) + w) (noS l (stand 0 l)) c)).1
theorem find_with (a b c : Int) (l : List S34) (hi : okI a b c) (hL : okL l) (hn : l.length < 100) (w : Int) (h1 : 1 ≤ w) (h2 : w ≤ 100) :
    ∃ r, Ev (fun k => burden_Find.f k a b c (l ++ [(⟨true, w, -1⟩ : S34)])) r ∧ r.1 = withW a b c l w ∧ r.2.2 = 0 := by
  have hL2 : okL (l ++ [(⟨true, w, -1⟩ : S34)]) := okL_snoc hL hn ⟨by simp only; omega, by simp only; omega, by simp only; omega, by simp only; omega⟩
  have f2 := find_ok a b c _ hi hL2
  rw [stand_snoc _ rfl] at f2
  have hs := yes_snoc ⟨true, w, -1⟩ l (stand 0 l) (stand_len l 0)
  rw [hs.1, hs.2] at f2
  simp only [if_true, Int.add_zero] at f2
  exact ⟨_, f2, rfl, findL_e _ _ _⟩
theorem enough_l0 (a b c : Int) (l : List S34) (hi : okI a b c) (hL : okL l) (hn : l.length < 100) : ∀ (n : Nat) (w : Int), w + n = 101 → 1 ≤ w → (∀ u, 1 ≤ u → u < w → withW a b c l u = false) →
    ∃ r, Ev (fun k => burden_Enough.l0 k l w a b c) r ∧ ((r.2 = 0 ∧ 1 ≤ r.1 ∧ r.1 ≤ 100 ∧ withW a b c l r.1 = true ∧ ∀ u, 1 ≤ u → u < r.1 → withW a b c l u = false) ∨ (r = (0, 18))) := by
  intro n
  induction n with
  | zero =>
    intro w h h1 hu
    refine ⟨(0, 18), ?_, Or.inr rfl⟩
    apply Ev.step
    · intro k; rw [burden_Enough.l0]
    · exact Ev.ite_neg (by omega) (Ev.now _)
  | succ n ih =>
    intro w h h1 hu
    obtain ⟨r, f1, f2, f3⟩ := find_with a b c l hi hL hn w h1 (by omega)
    by_cases cw : withW a b c l w = true
    · refine ⟨(w, 0), ?_, Or.inl ⟨rfl, h1, by simp only; omega, cw, hu⟩⟩
      apply Ev.step
      · intro k; rw [burden_Enough.l0]
      · refine Ev.ite_pos (by omega) ?_
        simp only [burden_Piece.f]
        rw [if_pos (by omega)]
        simp only [Option.bind_some]
        refine Ev.ite_pos (by simp; omega) (Ev.bind f1 (Ev.ite_pos (by rw [f2]; exact cw) (Ev.now _)))
    · obtain ⟨r', g1, g2⟩ := ih (w + 1) (by omega) (by omega) (fun u u1 u2 => by
        by_cases e : u = w
        · subst e; simpa using cw
        · exact hu u u1 (by omega))
      refine ⟨r', ?_, g2⟩
      apply Ev.step
      · intro k; rw [burden_Enough.l0]
      · refine Ev.ite_pos (by omega) ?_
        simp only [burden_Piece.f]
        rw [if_pos (by omega)]
        simp only [Option.bind_some]
        refine Ev.ite_pos (by simp; omega) (Ev.bind f1 (Ev.ite_neg (by rw [f2]; exact cw) ?_))
        rw [w64 (by omega) (by omega)]
        exact g1
theorem j0_ok (b : Bool) : Ev (fun k => mootkeep4_BurdenLeast.j0 k b) b := by
  apply Ev.step
  · intro k; rw [mootkeep4_BurdenLeast.j0]
  · exact Ev.now _
theorem j2_ok (b : Bool) : Ev (fun k => mootkeep4_BurdenLeast.j2 k b) b := by
  apply Ev.step
  · intro k; rw [mootkeep4_BurdenLeast.j2]
  · exact Ev.now _
theorem j4_ok (b : Bool) : Ev (fun k => mootkeep4_BurdenLeast.j4 k b) b := by
  apply Ev.step
  · intro k; rw [mootkeep4_BurdenLeast.j4]
  · exact Ev.now _
theorem j3_ok : Ev (fun k => mootkeep4_BurdenLeast.j3 k false 0 true 0) true := by
  apply Ev.step
  · intro k; rw [mootkeep4_BurdenLeast.j3]
  · exact Ev.ite_pos rfl (Ev.ite_pos rfl (Ev.ite_neg (by decide) (j4_ok true)))
theorem BurdenLeast : mootkeep4_BurdenLeast.Pure := by
  intro l0 _ _ hl
  obtain ⟨a, b, c, y, hy, hi, hn, hm⟩ := evid_ok l0 hl
  have hL := okL_made hm (by omega)
  have f0 := find_ok a b c y hi hL
  have e0 := findL_e a b (proofV (yesS y (stand 0 y)) (noS y (stand 0 y)) c)
  generalize findV a b (proofV (yesS y (stand 0 y)) (noS y (stand 0 y)) c) = r0 at f0 e0
  refine Ev.rounds ?_
  unfold mootkeep4_BurdenLeast.f
  refine Ev.bind found_ok (Ev.ite_pos rfl (Ev.bind hy ?_))
  simp only
  by_cases c0 : r0.1 = true
  · have he : Ev (fun k => burden_Enough.f k a b c y) (0, 0) := by
      unfold burden_Enough.f
      exact Ev.bind f0 (Ev.ite_pos e0 (Ev.ite_pos c0 (Ev.now _)))
    refine Ev.bind he (Ev.ite_pos rfl (Ev.bind f0 (Ev.ite_pos rfl ?_)))
    apply Ev.step
    · intro k; rw [mootkeep4_BurdenLeast.j1]
    · refine Ev.ite_pos rfl (Ev.ite_pos c0 ?_)
      rw [e0]
      exact j2_ok true
  · obtain ⟨r, g1, g2⟩ := enough_l0 a b c y hi hL (by omega) 100 1 (by omega) (by omega) (fun u u1 u2 => by omega)
    have he : Ev (fun k => burden_Enough.f k a b c y) r := by
      unfold burden_Enough.f
      exact Ev.bind f0 (Ev.ite_pos e0 (Ev.ite_neg c0 (Ev.ite_neg (by omega) g1)))
    refine Ev.bind he ?_
    rcases g2 with ⟨g2, g3, g4, g5, g6⟩ | g2
    · refine Ev.ite_pos g2 (Ev.bind f0 (Ev.ite_neg (by omega) ?_))
      obtain ⟨q, q1, q2, q3⟩ := find_with a b c y hi hL (by omega) r.1 g3 g4
      apply Ev.step
      · intro k; rw [mootkeep4_BurdenLeast.j1]
      · refine Ev.ite_neg (by rw [e0]; decide) ?_
        simp only [burden_Piece.f]
        rw [if_pos (by omega)]
        simp only [Option.bind_some]
        refine Ev.ite_pos (by simp; omega) (Ev.bind q1 ?_)
        by_cases c1 : r.1 > 1
        · refine Ev.ite_pos c1 ?_
          rw [w64 (by omega) (by omega)]
          obtain ⟨p, p1, p2, p3⟩ := find_with a b c y hi hL (by omega) (r.1 - 1) (by omega) (by omega)
          refine Ev.ite_pos (by simp; omega) (Ev.bind p1 ?_)
          rw [p2, p3, q2, q3, g5, g6 (r.1 - 1) (by omega) (by omega)]
          exact j3_ok
        · refine Ev.ite_neg c1 ?_
          rw [q2, q3, g5, e0, show r0.1 = false by simpa using c0]
          exact j3_ok
    · subst g2
      exact Ev.ite_neg (by decide) (Ev.ite_pos rfl (j0_ok true))
end Go.Proofs.Ytghnbiknghelpaa.Pure
