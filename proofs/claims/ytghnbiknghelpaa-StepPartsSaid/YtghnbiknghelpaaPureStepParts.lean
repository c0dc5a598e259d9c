/- Events in two parts lead to the same state as all of them at once: for every list of raw numbers and every raw cut. -/
import Derived.Test.YtghnbiknghelpaaPAllx0
import Derived.Test.YtghnbiknghelpaaPAllx45
import Derived.Test.YtghnbiknghelpaaPAllx50
import Derived.Test.YtghnbiknghelpaaLemE
namespace Go.Proofs.Ytghnbiknghelpaa.Pure
open Go.RowKit Go.Proofs.Ytghnbiknghelpaa.PAll Go.Proofs.YtghnbiknghelpaaW.PrintWords Go.Proofs.YtghnbiknghelpaaW.PrintLast
set_option linter.unusedVariables false
set_option linter.unusedSimpArgs false

theorem play_cons (e : S66) (es : List S66) (s : St) : playV (e :: es) s = if err (nx s e.f0 e.f1 e.f2) = 0 then playV es (stOf (nx s e.f0 e.f1 e.f2)) else (0, 0, 0, 0, 0, err (nx s e.f0 e.f1 e.f2)) := by rw [playV]
theorem play_append (a b : List S66) : ∀ s : St, (playV (a ++ b) s).2.2.2.2.2 = 0 → ∃ s1 : St, playV a s = (s1.1, s1.2.1, s1.2.2.1, s1.2.2.2.1, s1.2.2.2.2, 0) ∧ playV b s1 = playV (a ++ b) s := by
  induction a with
  | nil => intro s _; exact ⟨s, rfl, rfl⟩
  | cons e es ih =>
    intro s h
    have hc := play_cons e (es ++ b) s
    rw [List.cons_append] at h ⊢
    rw [hc] at h ⊢
    by_cases c : err (nx s e.f0 e.f1 e.f2) = 0
    · rw [if_pos c] at h ⊢
      obtain ⟨s1, h1, h2⟩ := ih _ h
      exact ⟨s1, by rw [play_cons, if_pos c]; exact h1, h2⟩
    · rw [if_neg c] at h; exact absurd h c
theorem parts_loop (x D : List S66) (hD : D.length ≤ 100) (s : St) (hx : Ev (fun k => step_Play.f k x) (s.1, s.2.1, s.2.2.1, s.2.2.2.1, s.2.2.2.2, 0)) : ∀ (n i : Nat) (t : St), i + n = D.length → playV (D.drop i) t = (s.1, s.2.1, s.2.2.1, s.2.2.2.1, s.2.2.2.2, 0) →
    Ev (fun k => mootkeep4_StepParts.l0 k x 0 D (D.length : Int) (i : Int) t.1 t.2.1 t.2.2.1 t.2.2.2.1 t.2.2.2.2) true := by
  intro n
  induction n with
  | zero =>
    intro i t h ht
    rw [List.drop_of_length_le (by omega), playV] at ht
    apply Ev.step
    · intro k; rw [mootkeep4_StepParts.l0]
    · refine Ev.ite_neg (by omega) (Ev.bind hx (Ev.ite_pos rfl (Ev.ite_pos rfl (Ev.some_ ?_))))
      simp only [Prod.mk.injEq] at ht
      obtain ⟨a, b, c, d, e, _⟩ := ht
      simp only [a, b, c, d, e, BEq.rfl, Bool.and_self]
  | succ n ih =>
    intro i t h ht
    rw [drop_cons66 D i (by omega), playV] at ht
    by_cases c : err (nx t (rd_T66 D i).f0 (rd_T66 D i).f1 (rd_T66 D i).f2) = 0
    · rw [if_pos c] at ht
      apply Ev.step
      · intro k; rw [mootkeep4_StepParts.l0]
      · refine Ev.ite_pos (by omega) (Ev.ite_pos (by omega) (Ev.ite_pos (by omega) (Ev.bind (snext_ok t _ _ _) (Ev.ite_pos c ?_))))
        rw [show wrap64 ((i : Int) + 1) = ((i + 1 : Nat) : Int) by rw [w64 (by omega) (by omega)]; omega]
        exact ih (i + 1) (stOf (nx t (rd_T66 D i).f0 (rd_T66 D i).f1 (rd_T66 D i).f2)) (by omega) ht
    · rw [if_neg c] at ht
      simp only [Prod.mk.injEq] at ht
      exact absurd ht.2.2.2.2.2 c
theorem StepParts : mootkeep4_StepParts.Pure := by
  intro l0 a1 _ _ hl h1
  obtain ⟨y, s, hy, hn, hs, hi⟩ := proc_ok l0 hl
  have hp := play_ok y (by omega)
  rw [hs.play] at hp
  have q1 := wf_bd h1
  obtain ⟨r, e1, r0, r1⟩ := below_ok a1 ((y.length : Int) + 1) q1.1 q1.2 (by omega) (by omega)
  obtain ⟨c, rfl⟩ := Int.eq_ofNat_of_zero_le r0
  have hw : wrap64 ((y.length : Int) + 1) = (y.length : Int) + 1 := w64 (by omega) (by omega)
  have happ := play_append (y.take c) (y.drop c) (0, 0, 0, 0, 0) (by rw [List.take_append_drop, hs.play])
  rw [List.take_append_drop, hs.play] at happ
  obtain ⟨s1, h2, h3⟩ := happ
  have ht := play_ok (y.take c) (by simp; omega)
  rw [h2] at ht
  refine Ev.rounds ?_
  unfold mootkeep4_StepParts.f
  refine Ev.bind stepped_ok (Ev.ite_pos rfl (Ev.bind hy ?_))
  simp only [hw, e1, Option.bind_some]
  refine Ev.ite_pos (by omega) (Ev.ite_pos (by omega) ?_)
  rw [Int.toNat_natCast]
  refine Ev.bind ht ?_
  exact parts_loop y (y.drop c) (by simp; omega) s hp (y.drop c).length 0 s1 (by omega) h3
end Go.Proofs.Ytghnbiknghelpaa.Pure
