/- Plain lemmas: the reference's calendar, by counting, against the one of the formulas; when the office is late. -/
import Derived.Test.YtghnbiknghelpaaPStpx11
import Derived.Test.YtghnbiknghelpaaPStpx29
import Derived.Test.YtghnbiknghelpaaStpP
namespace Go.Proofs.Ytghnbiknghelpaa.Pure
open Go.RowKit Go.Proofs.Ytghnbiknghelpaa.PStp Go.Proofs.YtghnbiknghelpaaW.PrintWords Go.Proofs.YtghnbiknghelpaaW.PrintLast
set_option linter.unusedVariables false
set_option linter.unusedSimpArgs false

theorem Ev.kon {α : Type} {g : Option α} {r : α} (h : g = some r) : Ev (fun _ => g) r := ⟨0, fun _ _ => h⟩
theorem Ev.uniq {α : Type} {g : Nat → Option α} {r s : α} (h : Ev g r) (j : Ev g s) : r = s := by
  obtain ⟨a, ha⟩ := h
  obtain ⟨b, hb⟩ := j
  have h1 := ha (max a b) (Nat.le_max_left _ _)
  have h2 := hb (max a b) (Nat.le_max_right _ _)
  rw [h1] at h2
  exact Option.some.inj h2
theorem size_ref (y m : Int) (hy : 1 ≤ y) (h1 : 1 ≤ m) (h2 : m ≤ 12) : Ev (fun k => mootlaw4_size.f k y m) (aM y (m + 1) - aM y m) := by
  have t4 : Int.tmod y 4 = y % 4 := Int.tmod_eq_emod_of_nonneg (by omega)
  have t1 : Int.tmod y 100 = y % 100 := Int.tmod_eq_emod_of_nonneg (by omega)
  have t40 : Int.tmod y 400 = y % 400 := Int.tmod_eq_emod_of_nonneg (by omega)
  have tail : ∀ b : Bool, b = decide (m = 4 ∨ m = 6 ∨ m = 9 ∨ m = 11) → Ev (fun k => mootlaw4_size.j0 k y m b) (aM y (m + 1) - aM y m) := by
    intro b hb
    apply Ev.step
    · intro k; rw [mootlaw4_size.j0]
    · rw [t4, t1, t40]
      by_cases c : m = 4 ∨ m = 6 ∨ m = 9 ∨ m = 11
      · rw [decide_eq_true c] at hb
        refine Ev.ite_pos hb (Ev.some_ ?_)
        unfold aM
        rcases c with rfl | rfl | rfl | rfl <;> (by_cases l : leapB y = true <;> simp [l])
      · rw [decide_eq_false c] at hb
        refine Ev.ite_neg (by rw [hb]; simp) ?_
        by_cases c2 : m = 2
        · subst c2
          refine Ev.ite_pos rfl ?_
          by_cases d4 : y % 4 = 0
          · refine Ev.ite_pos d4 ?_
            by_cases d1 : y % 100 = 0
            · refine Ev.ite_pos d1 ?_
              by_cases d40 : y % 400 = 0
              · refine Ev.ite_pos d40 (Ev.some_ ?_)
                have l : leapB y = true := decide_eq_true ⟨d4, .inr d40⟩
                simp [aM, l]
              · refine Ev.ite_neg d40 (Ev.some_ ?_)
                have l : leapB y = false := decide_eq_false (fun z => z.2.elim (fun q => q d1) d40)
                simp [aM, l]
            · refine Ev.ite_neg d1 (Ev.some_ ?_)
              have l : leapB y = true := decide_eq_true ⟨d4, .inl d1⟩
              simp [aM, l]
          · refine Ev.ite_neg d4 (Ev.some_ ?_)
            have l : leapB y = false := decide_eq_false (fun z => d4 z.1)
            simp [aM, l]
        · refine Ev.ite_neg c2 (Ev.some_ ?_)
          have : m = 1 ∨ m = 3 ∨ m = 5 ∨ m = 7 ∨ m = 8 ∨ m = 10 ∨ m = 12 := by omega
          unfold aM
          rcases this with rfl | rfl | rfl | rfl | rfl | rfl | rfl <;> (by_cases l : leapB y = true <;> simp [l])
  unfold mootlaw4_size.f
  by_cases c4 : m = 4
  · exact Ev.ite_pos c4 (tail _ (by simp [c4]))
  · refine Ev.ite_neg c4 ?_
    by_cases c6 : m = 6
    · exact Ev.ite_pos c6 (tail _ (by simp [c6]))
    · refine Ev.ite_neg c6 ?_
      by_cases c9 : m = 9
      · exact Ev.ite_pos c9 (tail _ (by simp [c9]))
      · refine Ev.ite_neg c9 (tail _ ?_)
        by_cases c11 : m = 11
        · simp [c11]
        · simp [c4, c6, c9, c11]
theorem fM_y (M : Int) (h : 0 ≤ M) (y m : Int) (hy : y = M / 12 + 1) (hm : m = M % 12 + 1) : Ev (fun k => mootlaw4_size.f k y m) (fM (M + 1) - fM M) := by
  rw [fM_step M h, ← hy, ← hm]
  refine Ev.res (by omega) (size_ref y m (by omega) (by omega) (by omega))
theorem partsR_l0 : ∀ (n : Nat) (M x : Int), 0 ≤ M → 0 ≤ x → x ≤ n → M + x ≤ 2000000 → ∃ N dd, Ev (fun k => mootlaw4_parts.l0 k x (M / 12 + 1) (M % 12 + 1)) (N / 12 + 1, N % 12 + 1, dd) ∧ M ≤ N ∧ 1 ≤ dd ∧ fM M + x = fM N + dd - 1 ∧ fM M + x < fM (N + 1) := by
  intro n
  induction n with
  | zero =>
    intro M x h0 hx hn hb
    have hs := fM_y M h0 _ _ rfl rfl
    have hb2 := fM_bd M h0
    refine ⟨M, x + 1, ?_, Int.le_refl _, by omega, by omega, by omega⟩
    apply Ev.step
    · intro k; rw [mootlaw4_parts.l0]
    · refine Ev.bind hs (Ev.ite_neg (by omega) (Ev.some_ ?_))
      rw [w64 (by omega) (by omega)]
  | succ n ih =>
    intro M x h0 hx hn hb
    have hs := fM_y M h0 _ _ rfl rfl
    have hb2 := fM_bd M h0
    by_cases c : x ≥ fM (M + 1) - fM M
    · obtain ⟨N, dd, e, e1, e2, e3, e4⟩ := ih (M + 1) (x - (fM (M + 1) - fM M)) (by omega) (by omega) (by omega) (by omega)
      refine ⟨N, dd, ?_, by omega, e2, by omega, by omega⟩
      apply Ev.step
      · intro k; rw [mootlaw4_parts.l0]
      · refine Ev.bind hs (Ev.ite_pos c (Ev.bind hs ?_))
        rw [w64 (a := M % 12 + 1 + 1) (by omega) (by omega), w64 (a := x - (fM (M + 1) - fM M)) (by omega) (by omega), w64 (a := M / 12 + 1 + 1) (by omega) (by omega)]
        by_cases d : M % 12 + 1 + 1 > 12
        · refine Ev.ite_pos d ?_
          rw [show M / 12 + 1 + 1 = (M + 1) / 12 + 1 by omega]
          rw [show (M + 1) % 12 + 1 = 1 by omega] at e
          exact e
        · refine Ev.ite_neg d ?_
          rw [show M / 12 + 1 = (M + 1) / 12 + 1 by omega, show M % 12 + 1 + 1 = (M + 1) % 12 + 1 by omega]
          exact e
    · refine ⟨M, x + 1, ?_, Int.le_refl _, by omega, by omega, by omega⟩
      apply Ev.step
      · intro k; rw [mootlaw4_parts.l0]
      · refine Ev.bind hs (Ev.ite_neg c (Ev.some_ ?_))
        rw [w64 (by omega) (by omega)]
theorem fM_400 (q : Int) (h : 0 ≤ q) : fM (4800 * q) = 146097 * q := by
  have e1 : 4800 * q / 12 + 1 = 400 * q + 1 := by omega
  have e2 : 4800 * q % 12 + 1 = 1 := by omega
  unfold fM
  rw [e1, e2, aM_one]
  unfold cY
  omega
theorem partsR_ok (d : Int) (h0 : 0 ≤ d) (h1 : d ≤ 1048575) : ∃ N dd, Ev (fun k => mootlaw4_parts.f k d) (N / 12 + 1, N % 12 + 1, dd) ∧ 0 ≤ N ∧ 1 ≤ dd ∧ d = fM N + dd - 1 ∧ d < fM (N + 1) := by
  obtain ⟨N, dd, e, e1, e2, e3, e4⟩ := partsR_l0 200000 (4800 * (d / 146097)) (d % 146097) (by omega) (by omega) (by omega) (by omega)
  have hq := fM_400 (d / 146097) (by omega)
  refine ⟨N, dd, ?_, by omega, e2, by omega, by omega⟩
  unfold mootlaw4_parts.f
  rw [Int.tmod_eq_emod_of_nonneg h0, Int.tdiv_eq_ediv_of_nonneg h0, w64 (a := d / 146097) (by omega) (by omega), w64 (a := d / 146097 * 400) (by omega) (by omega), w64 (by omega) (by omega)]
  rw [show 4800 * (d / 146097) / 12 + 1 = 1 + d / 146097 * 400 by omega, show 4800 * (d / 146097) % 12 + 1 = 1 by omega] at e
  exact e
/-- Half a year later: when a day is behind it. -/
theorem months6 (d : Int) (h0 : 0 ≤ d) (h1 : d ≤ 1048575) : ∃ M dd, 0 ≤ M ∧ 1 ≤ dd ∧ d = fM M + dd - 1 ∧ d < fM (M + 1) ∧ ∀ o, 0 ≤ o → o ≤ 1048575 → (o > mon d 6 ↔ o > fM (M + 6) + min dd (fM (M + 7) - fM (M + 6)) - 1) := by
  obtain ⟨y, m, dd, M, hp, a1, a2, a3, a4, hM, a5, a6, a7⟩ := parts_ok d h0 h1
  have hmo := month_ok _ M y m dd hp a1 a2 a3 a4 hM
  have hM0 : 0 ≤ M := by omega
  have hMx : M ≤ 36000 := by omega
  have hc : max 0 (min d 1048575) = d := by omega
  have hn : (mx (-40000) (mn 6 40000)) = 6 := by unfold mx mn; split <;> split <;> omega
  refine ⟨M, dd, hM0, a5, a6, a7, ?_⟩
  have key : ∀ v, (if M + 6 > 34450 then v = 1048575 else v = max 0 (min (fM (M + 6) + min dd (fM (M + 6 + 1) - fM (M + 6)) - 1) 1048575)) → mon d 6 = v := by
    intro v hv
    refine Ev.uniq (mon_ok d 6) ?_
    unfold day_Months.f
    rw [clamp_ok, hc]
    simp only [Option.bind_some]
    refine Ev.bind hp (Ev.bind hmo ?_)
    rw [hn, w64 (a := M + 6) (by omega) (by omega)]
    refine Ev.ite_neg (by omega) (Ev.bind maxMonth_ok ?_)
    by_cases c2 : M + 6 > 34450
    · rw [if_pos c2] at hv; subst hv; exact Ev.ite_pos c2 (Ev.now _)
    · rw [if_neg c2] at hv; subst hv
      refine Ev.ite_neg c2 ?_
      have hf := fM_mono (M + 6) 34450 (by omega) (by omega)
      have hf0 := fM_mono 0 (M + 6) (by omega) (by omega)
      have hz : fM 0 = 0 := by decide
      have hm := fM_max
      have hb := fM_bd (M + 6) (by omega)
      refine Ev.bind (mfirst_ok (M + 6) (by omega) (by omega)) (Ev.bind (size_ok (M + 6) (by omega) (by omega)) ?_)
      simp only
      rw [show mn dd (fM (M + 6 + 1) - fM (M + 6)) = min dd (fM (M + 6 + 1) - fM (M + 6)) by unfold mn; split <;> omega,
        w64 (a := fM (M + 6) + min dd (fM (M + 6 + 1) - fM (M + 6))) (by omega) (by omega), w64 (by omega) (by omega), clamp_ok]
      simp only [Option.bind_some]
      exact Ev.now _
  intro o o0 o1
  have e7 : M + 6 + 1 = M + 7 := by omega
  rw [e7] at key
  have hb6 := fM_bd (M + 6) (by omega)
  rw [e7] at hb6
  by_cases c : M + 6 > 34450
  · rw [key 1048575 (by rw [if_pos c])]
    have := fM_mono 34451 (M + 6) (by omega) (by omega)
    have := fM_max1
    omega
  · rw [key _ (by rw [if_neg c])]
    have hf0 := fM_mono 0 (M + 6) (by omega) (by omega)
    have hz : fM 0 = 0 := by decide
    omega
end Go.Proofs.Ytghnbiknghelpaa.Pure
