/- Corrections in two steps come to the correction in one: for all raw numbers and every raw day. -/
import Derived.Test.YtbcaaocogphdeaaPAllx0
import Derived.Test.YtbcaaocogphdeaaPAllx45
import Derived.Test.YtbcaaocogphdeaaLemE
namespace Go.Proofs.Ytbcaaocogphdeaa.Pure
open Go.RowKit Go.Proofs.Ytbcaaocogphdeaa.PAll Go.Proofs.YtbcaaocogphdeaaW.PrintWords Go.Proofs.YtbcaaocogphdeaaW.PrintLast
set_option linter.unusedVariables false
set_option linter.unusedSimpArgs false

theorem made_any {l : List S32} (h : ∀ p ∈ l, made p) : ∀ p ∈ l, okP p ∧ -20000 ≤ p.f2 ∧ p.f2 ≤ 20000 ∧ 0 ≤ p.f0 ∧ p.f0 ≤ 1000 := by
  intro p hp
  have := h p hp
  refine ⟨made_ok this, ?_⟩
  unfold made at this
  omega
theorem BackSteps : mootkeep4_BackSteps.Pure := by
  intro l0 l1 l2 a3 _ _ hw0 _ _ hw1 _ _ hw2 hw3
  obtain ⟨paid, p0, pl, pm⟩ := pays_ok l0 hw0
  obtain ⟨first, q0, ql, qm⟩ := pays_ok l1 hw1
  obtain ⟨last, r0, rl, rm⟩ := pays_ok l2 hw2
  obtain ⟨d, d0, d1, d2⟩ := day_ok a3 (wf_bd hw3).1 (wf_bd hw3).2
  obtain ⟨x, x0, x1, x2, x3, x4⟩ := corr_made paid first d pl ql pm qm d1 d2
  have hpx : ∀ p ∈ paid ++ x, okP p ∧ -20000 ≤ p.f2 ∧ p.f2 ≤ 20000 ∧ 0 ≤ p.f0 ∧ p.f0 ≤ 1000 := by
    intro p hp
    rcases List.mem_append.1 hp with hp | hp
    · exact made_any pm p hp
    · have := x3 p hp
      unfold okP
      omega
  obtain ⟨y, y0, y1, y2, y3⟩ := corr_any (paid ++ x) last d (by rw [List.length_append]; omega) (by omega) hpx (made_any rm) d1 d2
  obtain ⟨z, z0, z1, z2, z3⟩ := corr_any paid last d (by omega) (by omega) (made_any pm) (made_any rm) d1 d2
  have x5 : ∀ p ∈ x, -3000000 ≤ p.f2 ∧ p.f2 ≤ 3000000 := fun p hp => by have := x3 p hp; omega
  refine ⟨90, ?_⟩
  unfold mootkeep4_BackSteps.f
  rw [if_pos]
  refine ⟨paid, first, last, x, y, z, d, fun who m => tot (who, m) x, fun who m => tot (who, m) y, fun who m => tot (who, m) z, corrected_ok 90 (by omega), d0, p0 90 (by omega), q0 90 (by omega), r0 90 (by omega), x0, y0, z0, by omega, by omega, ?_, ?_, ?_, ?_⟩
  · intro who m _ _ _ _
    exact sum_ok x (by omega) x5 who m 90 (by omega)
  · intro who m _ _ _ _
    exact sum_ok y (by omega) y2 who m 90 (by omega)
  · intro who m _ _ _ _
    exact sum_ok z (by omega) z2 who m 90 (by omega)
  · intro who m _ _ _ _
    have b1 := tot_bd (who, m) 3000000 (by omega) z z2
    have e : tot (who, m) x + tot (who, m) y = tot (who, m) z := by rw [x4, y3, z3, tot_append, x4]; omega
    show wrap64 (tot (who, m) x + tot (who, m) y) = tot (who, m) z
    rw [e, w64 (by omega) (by omega)]
end Go.Proofs.Ytbcaaocogphdeaa.Pure
