/- A month after a decision it is final, nobody can appeal or withdraw, and it can only be reopened: for every list of raw numbers and every raw number of days. -/
import Derived.Test.YtghnbiknghelpaaPAllx48
import Derived.Test.YtghnbiknghelpaaPAllx49
import Derived.Test.YtghnbiknghelpaaLemE
namespace Go.Proofs.Ytghnbiknghelpaa.Pure
open Go.RowKit Go.Proofs.Ytghnbiknghelpaa.PAll Go.Proofs.YtghnbiknghelpaaW.PrintWords Go.Proofs.YtghnbiknghelpaaW.PrintLast
set_option linter.unusedVariables false
set_option linter.unusedSimpArgs false

theorem equal5_ok : Ev (fun k => slices_Equal_int_int.f k [5] [5]) true := Ev.of (slices_Equal_int_int.mono [5] [5]) (k := 5) (by decide +kernel)
theorem can_final (s : St) (who d : Int) (hw : who = 1 ∨ who = 2) (h3 : s.1 = 3) (h0 : 0 ≤ s.2.2.2.1) (hs : s.2.1 = s.2.2.2.1) (hd : mon s.2.2.2.1 1 < d) (hm : s.2.2.2.1 ≤ mon s.2.2.2.1 1) (h48 : d ≤ mon s.2.2.2.1 48) : canV s who d = [5] := by
  have hhi := mon_hi s.2.2.2.1 48
  have key : ∀ k : Int, 1 ≤ k → k ≤ 6 → (err (nx s k who d) = 0 ↔ k = 5) := by
    intro k k1 k6
    have ho : (onV (mon s.2.2.2.1 1) s d).1 = 4 := by unfold onV; rw [if_pos ⟨h3, hd⟩]
    unfold nx nextV
    rw [if_neg (by omega)]
    by_cases c5 : k = 5
    · subst c5
      have hb : byV 5 who = true := by rcases hw with rfl | rfl <;> rfl
      rw [if_neg (by rw [hb]; decide), if_neg (by omega), ho]
      have ha : afterV 4 5 = 6 := by decide
      rw [ha, if_neg (by omega), if_neg (by omega)]
      simp [err, putV]
    · have ha : afterV 4 k = 0 := by
        unfold afterV
        rw [if_neg (by omega), if_neg (by omega), if_neg (by omega), if_neg (by omega), if_neg (by omega), if_neg (by omega)]
      rw [ho, ha]
      constructor
      · intro h
        revert h
        split
        · simp [err]
        · split
          · simp [err]
          · simp [err]
      · intro h; exact absurd h c5
  unfold canV
  have k1 := key 1 (by omega) (by omega)
  have k2 := key 2 (by omega) (by omega)
  have k3 := key 3 (by omega) (by omega)
  have k4 := key 4 (by omega) (by omega)
  have k5 := key 5 (by omega) (by omega)
  have k6 := key 6 (by omega) (by omega)
  simp only [List.filter_cons, List.filter_nil, k1, k2, k3, k4, k5, k6]
  simp
theorem StepFinal : mootkeep4_StepFinal.Pure := by
  intro l0 a1 _ _ hl h1
  obtain ⟨y, s, hy, hn, hs, hi⟩ := proc_ok l0 hl
  have hp := play_ok y (by omega)
  rw [hs.play] at hp
  have q1 := wf_bd h1
  obtain ⟨t, e1, t0, t1⟩ := below_ok a1 1000 q1.1 q1.2 (by omega) (by omega)
  refine Ev.rounds ?_
  unfold mootkeep4_StepFinal.f
  refine Ev.bind stepped_ok (Ev.ite_pos rfl (Ev.bind hy (Ev.bind hp (Ev.ite_pos rfl ?_))))
  by_cases c : s.1 = 3
  · refine Ev.ite_pos c ?_
    obtain ⟨i1, i2, i3⟩ := hi c
    obtain ⟨m1, m2, m3⟩ := mon_1 s.2.2.2.1 i2 (by omega)
    refine Ev.bind (mon_ok s.2.2.2.1 1) ?_
    simp only [e1, Option.bind_some]
    rw [w64 (a := mon s.2.2.2.1 1 + 1) (by omega) (by omega), w64 (a := mon s.2.2.2.1 1 + 1 + t) (by omega) (by omega)]
    have ho : on s (mon s.2.2.2.1 1 + 1 + t) = (4, wrap64 (mon s.2.2.2.1 1 + 1), s.2.2) := by unfold on onV; rw [if_pos ⟨c, by omega⟩]
    refine Ev.bind (on_ok1 s (mon s.2.2.2.1 1 + 1 + t)) ?_
    rw [ho]
    refine Ev.ite_pos rfl (Ev.ite_pos rfl ?_)
    have f1 := can_final s 1 (mon s.2.2.2.1 1 + 1 + t) (Or.inl rfl) c i2 i1 (by omega) (by omega) (by omega)
    have f2 := can_final s 2 (mon s.2.2.2.1 1 + 1 + t) (Or.inr rfl) c i2 i1 (by omega) (by omega) (by omega)
    have g1 := can_ok s 1 (mon s.2.2.2.1 1 + 1 + t)
    have g2 := can_ok s 2 (mon s.2.2.2.1 1 + 1 + t)
    rw [f1] at g1
    rw [f2] at g2
    exact Ev.bind g1 (Ev.bind equal5_ok (Ev.ite_pos rfl (Ev.bind g2 (Ev.bind equal5_ok (Ev.now _)))))
  · exact Ev.ite_neg c (Ev.now _)
end Go.Proofs.Ytghnbiknghelpaa.Pure
