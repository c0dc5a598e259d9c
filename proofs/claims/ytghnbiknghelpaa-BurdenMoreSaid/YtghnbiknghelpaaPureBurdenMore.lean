/- A further piece of evidence for a claim, that rebuts nothing, does not make the claim fail: for every list of raw numbers and every raw weight. -/
import Derived.Test.YtghnbiknghelpaaPAllx5
import Derived.Test.YtghnbiknghelpaaLemB
namespace Go.Proofs.Ytghnbiknghelpaa.Pure
open Go.RowKit Go.Proofs.Ytghnbiknghelpaa.PAll Go.Proofs.YtghnbiknghelpaaW.PrintWords Go.Proofs.YtghnbiknghelpaaW.PrintLast

theorem meets_mono {a a' b b' s : Int} (h : meetsB a b s = true) (h1 : a ≤ a') (h2 : b' ≤ b) (h3 : 0 ≤ b') : meetsB a' b' s = true := by
  unfold meetsB at *
  by_cases c1 : s = 1
  · rw [if_pos c1] at *; simp at *; omega
  · rw [if_neg c1] at *
    by_cases c2 : s = 2
    · rw [if_pos c2] at *; simp at *; omega
    · rw [if_neg c2] at *; simp at *; omega

theorem find_mono (a b y n y' s : Int) (hy : y ≤ y') (h0 : 0 ≤ y) (hn : 0 ≤ n) (h : (findV a b (proofV y n s)).1 = true) : (findV a b (proofV y' n s)).1 = true := by
  unfold proofV at *
  by_cases c1 : meetsB y n s = true
  · rw [if_pos (meets_mono c1 hy (Int.le_refl _) hn)]; rfl
  · rw [if_neg c1] at h
    by_cases c2 : meetsB n y s = true
    · rw [if_pos c2] at h; simp [findV] at h
    · rw [if_neg c2] at h
      by_cases c3 : meetsB y' n s = true
      · rw [if_pos c3]; rfl
      · rw [if_neg c3]
        have c4 : ¬ meetsB n y' s = true := fun c => c2 (meets_mono c (Int.le_refl _) hy h0)
        rw [if_neg c4]; exact h
theorem find_e (a b v : Int) : (findV a b v).2.2 = 0 := by unfold findV; by_cases h : v = 2 <;> by_cases h2 : a = 2 <;> simp [h, h2]

theorem BurdenMore : mootkeep4_BurdenMore.Pure := by
  intro l0 a1 _ _ hl ha
  obtain ⟨a, b, c, y, hy, hi, hn, hm⟩ := evid_ok l0 hl
  have hb := wf_bd ha
  obtain ⟨t, ht, t0, t1⟩ := below_ok a1 100 hb.1 hb.2 (by omega) (by omega)
  have hL := okL_made hm (by omega)
  have hL2 : okL (y ++ [(⟨true, 1 + t, -1⟩ : S34)]) := okL_snoc hL (by omega) ⟨by simp only; omega, by simp only; omega, by simp only; omega, by simp only; omega⟩
  have f1 := find_ok a b c y hi hL
  have f2 := find_ok a b c _ hi hL2
  obtain ⟨b1, b2, b3, b4⟩ := yes_bd y (stand 0 y) (okL_mem hL)
  rw [stand_snoc _ rfl] at f2
  have hs := yes_snoc ⟨true, 1 + t, -1⟩ y (stand 0 y) (stand_len y 0)
  rw [hs.1, hs.2] at f2
  simp only [if_true, Int.add_zero] at f2
  have hmono := find_mono a b (yesS y (stand 0 y)) (noS y (stand 0 y)) (yesS y (stand 0 y) + (1 + t)) c (by omega) b1 b3
  refine Ev.rounds ?_
  unfold mootkeep4_BurdenMore.f
  refine Ev.bind found_ok (Ev.ite_pos rfl ?_)
  refine Ev.bind hy ?_
  simp only
  refine Ev.bind f1 ?_
  simp only [ht, Option.bind_some]
  rw [w64 (by omega) (by omega)]
  refine Ev.ite_pos (by omega) ?_
  refine Ev.bind f2 ?_
  refine Ev.ite_pos (find_e _ _ _) (Ev.ite_pos (find_e _ _ _) ?_)
  by_cases c1 : (findV a b (proofV (yesS y (stand 0 y)) (noS y (stand 0 y)) c)).1 = true
  · refine Ev.ite_pos c1 (Ev.some_ (hmono c1))
  · exact Ev.ite_neg c1 (Ev.now _)

end Go.Proofs.Ytghnbiknghelpaa.Pure
