/- A correction, paid, leaves nothing to correct; the correction the other way is its mirror: for all raw numbers and every raw day. -/
import Derived.Test.YtbcaaocogphdeaaPAllx0
import Derived.Test.YtbcaaocogphdeaaPAllx36
import Derived.Test.YtbcaaocogphdeaaLemD
namespace Go.Proofs.Ytbcaaocogphdeaa.Pure
open Go.RowKit Go.Proofs.Ytbcaaocogphdeaa.PAll Go.Proofs.YtbcaaocogphdeaaW.PrintWords Go.Proofs.YtbcaaocogphdeaaW.PrintLast
set_option linter.unusedVariables false
set_option linter.unusedSimpArgs false

theorem BackOnce : mootkeep4_BackOnce.Pure := by
  intro l0 l1 a2 _ _ hw0 _ _ hw1 hw2
  obtain ⟨paid, p0, pl, pm⟩ := pays_ok l0 hw0
  obtain ⟨due, q0, ql, qm⟩ := pays_ok l1 hw1
  obtain ⟨d, d0, d1, d2⟩ := day_ok a2 (wf_bd hw2).1 (wf_bd hw2).2
  obtain ⟨x, x0, x1, x2, x3, x4⟩ := corr_made paid due d pl ql pm qm d1 d2
  obtain ⟨z, z0, z1, z2, z3, z4⟩ := corr_made due paid d ql pl qm pm d1 d2
  have hz : z = x.map neg := by rw [z2, x2]; exact corr_back paid due d pl ql pm qm
  refine ⟨13, ?_⟩
  unfold mootkeep4_BackOnce.f
  rw [if_pos]
  refine ⟨paid, due, x, z, d, corrected_ok 13 (by omega), p0 13 (by omega), q0 13 (by omega), d0, x0, corr_again paid due x d pl ql pm qm d1 d2 x1 x3 x4, z0, by omega, by omega, by rw [hz, List.length_map], ?_⟩
  intro i h0 h1
  rw [hz, rd_map x i h0 h1]
  refine ⟨rfl, rfl, ?_⟩
  have := x3 _ (rd_mem h0 h1)
  show (rd_T32 x i).f2 = wrap64 (-(-(rd_T32 x i).f2))
  rw [w64 (by omega) (by omega)]
  omega
end Go.Proofs.Ytbcaaocogphdeaa.Pure
