import Derived.Test.YtghnbiknghelpaaPAllx32
import Derived.Test.YtghnbiknghelpaaPAllx33
import Derived.Test.YtghnbiknghelpaaPAllx34
import Derived.Test.YtghnbiknghelpaaPAllx35
import Derived.Test.YtghnbiknghelpaaPAllx36
import Derived.Test.YtghnbiknghelpaaPAllx37
import Derived.Test.YtghnbiknghelpaaPAllx38
import Derived.Test.YtghnbiknghelpaaPAllx39
import Derived.Test.YtghnbiknghelpaaPAllx40
import Derived.Test.YtghnbiknghelpaaLemA
namespace Go.Proofs.Ytghnbiknghelpaa.Pure
open Go.RowKit Go.Proofs.Ytghnbiknghelpaa.PAll Go.Proofs.YtghnbiknghelpaaW.PrintWords Go.Proofs.YtghnbiknghelpaaW.PrintLast
set_option linter.unusedVariables false
set_option linter.unusedSimpArgs false

/-! ### The calendar -/
def cY (y : Int) : Int := 365 * (y - 1) + (y - 1) / 4 - (y - 1) / 100 + (y - 1) / 400
def leapB (y : Int) : Bool := decide (y % 4 = 0 ∧ (y % 100 ≠ 0 ∨ y % 400 = 0))
def aM (y m : Int) : Int := (367 * m - 362) / 12 - (if m ≤ 2 then 0 else if leapB y = true then 1 else 2)
def fM (M : Int) : Int := cY (M / 12 + 1) + aM (M / 12 + 1) (M % 12 + 1)

theorem first_ok (y : Int) (h1 : 1 ≤ y) (h2 : y ≤ 100000) : day_first.f y = some (cY y) := by
  unfold day_first.f cY
  rw [w64 (a := y - 1) (by omega) (by omega), Int.tdiv_eq_ediv_of_nonneg (by omega), Int.tdiv_eq_ediv_of_nonneg (by omega), Int.tdiv_eq_ediv_of_nonneg (by omega),
    w64 (a := (y - 1) / 4) (by omega) (by omega), w64 (a := (y - 1) / 100) (by omega) (by omega), w64 (a := (y - 1) / 400) (by omega) (by omega), w64 (a := 365 * (y - 1)) (by omega) (by omega),
    w64 (a := 365 * (y - 1) + (y - 1) / 4) (by omega) (by omega), w64 (a := 365 * (y - 1) + (y - 1) / 4 - (y - 1) / 100) (by omega) (by omega), w64 (by omega) (by omega)]
theorem leap_ok (y : Int) (h1 : 0 ≤ y) : day_Leap.f y = some (leapB y) := by
  unfold day_Leap.f leapB
  rw [Int.tmod_eq_emod_of_nonneg h1, Int.tmod_eq_emod_of_nonneg h1, Int.tmod_eq_emod_of_nonneg h1]
  by_cases c1 : y % 4 = 0
  · rw [if_pos c1]
    by_cases c2 : y % 100 = 0
    · rw [if_pos c2]; congr 1; rw [Bool.eq_iff_iff]; simp [c1, c2]
    · rw [if_neg c2]; congr 1; simp [c1, c2]
  · rw [if_neg c1]; congr 1; simp [c1]
theorem ahead_ok (y m : Int) (h1 : 0 ≤ y) (h2 : 1 ≤ m) (h3 : m ≤ 13) : day_ahead.f y m = some (aM y m) := by
  unfold day_ahead.f aM
  rw [w64 (a := 367 * m) (by omega) (by omega), w64 (a := 367 * m - 362) (by omega) (by omega), Int.tdiv_eq_ediv_of_nonneg (by omega), w64 (a := (367 * m - 362) / 12) (by omega) (by omega), leap_ok y h1]
  by_cases c : m ≤ 2
  · rw [if_pos c, if_pos c]; congr 1; omega
  · rw [if_neg c, if_neg c, Option.bind_some, w64 (by omega) (by omega), w64 (by omega) (by omega)]
    cases leapB y <;> simp
theorem cY_succ (y : Int) (h : 1 ≤ y) : cY (y + 1) = cY y + aM y 13 := by
  unfold cY aM leapB
  by_cases c4 : y % 4 = 0 <;> by_cases c100 : y % 100 = 0 <;> by_cases c400 : y % 400 = 0 <;> simp [c4, c100, c400] <;> omega
theorem aM_step (y m : Int) (h1 : 1 ≤ m) (h2 : m ≤ 12) : 28 ≤ aM y (m + 1) - aM y m ∧ aM y (m + 1) - aM y m ≤ 31 := by
  have hm : m = 1 ∨ m = 2 ∨ m = 3 ∨ m = 4 ∨ m = 5 ∨ m = 6 ∨ m = 7 ∨ m = 8 ∨ m = 9 ∨ m = 10 ∨ m = 11 ∨ m = 12 := by omega
  unfold aM
  cases leapB y <;> rcases hm with rfl | rfl | rfl | rfl | rfl | rfl | rfl | rfl | rfl | rfl | rfl | rfl <;> decide
theorem aM_one (y : Int) : aM y 1 = 0 := by simp [aM]
theorem fM_step (M : Int) (h : 0 ≤ M) : fM (M + 1) = fM M + (aM (M / 12 + 1) (M % 12 + 1 + 1) - aM (M / 12 + 1) (M % 12 + 1)) := by
  unfold fM
  by_cases c : M % 12 = 11
  · rw [show (M + 1) / 12 = M / 12 + 1 by omega, show (M + 1) % 12 = 0 by omega, c, show (0 : Int) + 1 = 1 from rfl, show (11 : Int) + 1 + 1 = 13 from rfl, cY_succ _ (by omega), aM_one]
    omega
  · rw [show (M + 1) / 12 = M / 12 by omega, show (M + 1) % 12 = M % 12 + 1 by omega]
    omega
theorem fM_bd (M : Int) (h : 0 ≤ M) : fM M + 28 ≤ fM (M + 1) ∧ fM (M + 1) ≤ fM M + 31 := by
  have := aM_step (M / 12 + 1) (M % 12 + 1) (by omega) (by omega)
  rw [fM_step M h]; omega
theorem fM_far (M : Int) (h : 0 ≤ M) (n : Nat) : fM M + 28 * n ≤ fM (M + n) ∧ fM (M + n) ≤ fM M + 31 * n := by
  induction n with
  | zero => simp
  | succ n ih =>
    have := fM_bd (M + n) (by omega)
    rw [show M + ((n + 1 : Nat) : Int) = M + n + 1 by omega]; omega
theorem fM_mono (M N : Int) (h : 0 ≤ M) (h2 : M ≤ N) : fM M ≤ fM N := by
  obtain ⟨n, rfl⟩ : ∃ n : Nat, N = M + n := ⟨(N - M).toNat, by omega⟩
  have := fM_far M h n; omega
theorem clamp_ok (d : Int) : day_clamp.f d = some (max 0 (min d 1048575)) := by
  unfold day_clamp.f mx mn
  congr 1
  split <;> split <;> omega

theorem parts_l1 (y rest : Int) (hy : 1 ≤ y) (hy2 : y ≤ 4000) (h0 : 0 ≤ rest) (hr : rest < aM y 13) : ∀ (n : Nat) (m : Int), (12 - m).toNat = n → 1 ≤ m → m ≤ 12 → aM y m ≤ rest →
    ∃ m', 1 ≤ m' ∧ m' ≤ 12 ∧ aM y m' ≤ rest ∧ rest < aM y (m' + 1) ∧ Ev (fun k => day_Parts.l1 k y rest m) (y, m', rest - aM y m' + 1) := by
  have hb : aM y 13 ≤ 400 := by unfold aM; (split; omega; split <;> omega)
  have hlo : ∀ m : Int, 1 ≤ m → m ≤ 12 → 0 ≤ aM y m := by intro m h1 h2; unfold aM; (split; omega; split <;> omega)
  intro n
  induction n with
  | zero =>
    intro m hn h1 h2 ha
    obtain rfl : m = 12 := by omega
    have := hlo 12 (by omega) (by omega)
    refine ⟨12, by omega, by omega, ha, hr, ?_⟩
    apply Ev.step
    · intro k; rw [day_Parts.l1]
    · refine Ev.ite_neg (by omega) ?_
      rw [ahead_ok y 12 (by omega) (by omega) (by omega)]; simp only [Option.bind_some]; rw [w64 (a := rest - aM y 12) (by omega) (by omega), w64 (by omega) (by omega)]
      exact Ev.now _
  | succ n ih =>
    intro m hn h1 h2 ha
    have := hlo m (by omega) (by omega)
    by_cases c : aM y (m + 1) ≤ rest
    · obtain ⟨m', a1, a2, a3, a4, a5⟩ := ih (m + 1) (by omega) (by omega) (by omega) c
      refine ⟨m', a1, a2, a3, a4, ?_⟩
      apply Ev.step
      · intro k; rw [day_Parts.l1]
      · refine Ev.ite_pos (by omega) ?_
        rw [w64 (a := m + 1) (by omega) (by omega), ahead_ok y (m + 1) (by omega) (by omega) (by omega)]; simp only [Option.bind_some]
        exact Ev.ite_pos c a5
    · refine ⟨m, h1, h2, ha, by omega, ?_⟩
      apply Ev.step
      · intro k; rw [day_Parts.l1]
      · refine Ev.ite_pos (by omega) ?_
        rw [w64 (a := m + 1) (by omega) (by omega), ahead_ok y (m + 1) (by omega) (by omega) (by omega)]; simp only [Option.bind_some]
        refine Ev.ite_neg c ?_
        rw [ahead_ok y m (by omega) (by omega) (by omega)]; simp only [Option.bind_some]; rw [w64 (a := rest - aM y m) (by omega) (by omega), w64 (by omega) (by omega)]
        exact Ev.now _
theorem parts_l0 (d : Int) (hd0 : 0 ≤ d) (hd1 : d ≤ 1048575) : ∀ (n : Nat) (y : Int), (3000 - y).toNat = n → 1 ≤ y → y ≤ 3000 → cY y ≤ d →
    ∃ y', 1 ≤ y' ∧ y' ≤ 3000 ∧ cY y' ≤ d ∧ d < cY (y' + 1) ∧ ∀ r, Ev (fun k => day_Parts.l1 k y' (d - cY y') 1) r → Ev (fun k => day_Parts.l0 k d y) r := by
  have hc : ∀ y : Int, 1 ≤ y → 0 ≤ cY y := by intro y h; unfold cY; omega
  intro n
  induction n with
  | zero =>
    intro y hn h1 h2 ha
    obtain rfl : y = 3000 := by omega
    exfalso
    have : cY 3000 = 1095362 := by decide
    omega
  | succ n ih =>
    intro y hn h1 h2 ha
    by_cases c : cY (y + 1) ≤ d
    · obtain ⟨y', a1, a2, a3, a4, a5⟩ := ih (y + 1) (by omega) (by omega) (by omega) c
      refine ⟨y', a1, a2, a3, a4, fun r hr => ?_⟩
      apply Ev.step
      · intro k; rw [day_Parts.l0]
      · rw [w64 (a := y + 1) (by omega) (by omega), first_ok (y + 1) (by omega) (by omega)]; simp only [Option.bind_some]
        exact Ev.ite_pos c (a5 r hr)
    · refine ⟨y, h1, h2, ha, by omega, fun r hr => ?_⟩
      have := hc y h1
      apply Ev.step
      · intro k; rw [day_Parts.l0]
      · rw [w64 (a := y + 1) (by omega) (by omega), first_ok (y + 1) (by omega) (by omega)]; simp only [Option.bind_some]
        refine Ev.ite_neg c ?_
        rw [first_ok y (by omega) (by omega)]; simp only [Option.bind_some]; rw [w64 (by omega) (by omega)]
        exact hr
theorem parts_ok (d : Int) (hd0 : 0 ≤ d) (hd1 : d ≤ 1048575) : ∃ y m dd M, Ev (fun k => day_Parts.f k d) (y, m, dd) ∧ 1 ≤ y ∧ y ≤ 3000 ∧ 1 ≤ m ∧ m ≤ 12 ∧ M = 12 * (y - 1) + m - 1 ∧ 1 ≤ dd ∧ d = fM M + dd - 1 ∧ d < fM (M + 1) := by
  have hstart : cY (400 * (d / 146097) + d % 146097 / 366 + 1) ≤ d := by unfold cY; omega
  obtain ⟨y, a1, a2, a3, a4, a5⟩ := parts_l0 d hd0 hd1 _ (400 * (d / 146097) + d % 146097 / 366 + 1) rfl (by omega) (by omega) hstart
  rw [cY_succ y a1] at a4
  obtain ⟨m, b1, b2, b3, b4, b5⟩ := parts_l1 y (d - cY y) a1 (by omega) (by omega) (by omega) _ 1 rfl (by omega) (by omega) (by rw [aM_one]; omega)
  have e1 : (12 * (y - 1) + m - 1) / 12 + 1 = y := by omega
  have e2 : (12 * (y - 1) + m - 1) % 12 + 1 = m := by omega
  refine ⟨y, m, d - cY y - aM y m + 1, 12 * (y - 1) + m - 1, ?_, a1, a2, b1, b2, rfl, by omega, ?_, ?_⟩
  · unfold day_Parts.f
    rw [clamp_ok]; simp only [Option.bind_some]; rw [show max 0 (min d 1048575) = d by omega, Int.tdiv_eq_ediv_of_nonneg hd0, Int.tmod_eq_emod_of_nonneg hd0, Int.tdiv_eq_ediv_of_nonneg (by omega),
      w64 (a := d / 146097) (by omega) (by omega), w64 (a := 400 * (d / 146097)) (by omega) (by omega), w64 (a := d % 146097 / 366) (by omega) (by omega), w64 (a := 400 * (d / 146097) + d % 146097 / 366) (by omega) (by omega), w64 (by omega) (by omega)]
    exact a5 _ b5
  · unfold fM; rw [e1, e2]; omega
  · rw [fM_step _ (by omega)]; unfold fM; rw [e1, e2]; omega

theorem month_ok (d M : Int) (y m dd : Int) (h : Ev (fun k => day_Parts.f k d) (y, m, dd)) (hy : 1 ≤ y) (hy2 : y ≤ 3000) (hm : 1 ≤ m) (hm2 : m ≤ 12) (hM : M = 12 * (y - 1) + m - 1) : Ev (fun k => day_Month.f k d) M := by
  unfold day_Month.f
  refine Ev.bind h (Ev.some_ ?_)
  simp only
  rw [w64 (a := y - 1) (by omega) (by omega), w64 (a := 12 * (y - 1)) (by omega) (by omega), w64 (a := 12 * (y - 1) + m) (by omega) (by omega), w64 (by omega) (by omega), hM]
theorem maxMonth_ok : Ev (fun k => day_Month.f k 1048575) 34450 := Ev.of (day_Month.mono 1048575) (k := 40) (by decide +kernel)
theorem fM_max : fM 34450 = 1048550 := by decide +kernel
theorem fM_max1 : fM 34451 = 1048580 := by decide +kernel
theorem mfirst_ok (M : Int) (h0 : 0 ≤ M) (h1 : M ≤ 34450) : Ev (fun k => day_First.f k M) (fM M) := by
  have hb := fM_mono M 34450 h0 h1
  have h2 := fM_max
  have h00 : 0 ≤ cY (M / 12 + 1) := by unfold cY; omega
  have hlo : 0 ≤ aM (M / 12 + 1) (M % 12 + 1) := by unfold aM; (split; omega; split <;> omega)
  have hhi : aM (M / 12 + 1) (M % 12 + 1) ≤ 400 := by unfold aM; (split; omega; split <;> omega)
  unfold day_First.f
  refine Ev.bind maxMonth_ok ?_
  rw [show mx 0 (mn M 34450) = M by unfold mx mn; split <;> split <;> omega, w64 (a := M / 12) (by omega) (by omega), w64 (a := M / 12 + 1) (by omega) (by omega), first_ok _ (by omega) (by omega), ahead_ok _ _ (by omega) (by omega) (by omega)]
  simp only [Option.bind_some]
  have e : fM M = cY (M / 12 + 1) + aM (M / 12 + 1) (M % 12 + 1) := rfl
  rw [w64 (by omega) (by omega)]
  exact Ev.some_ rfl
theorem size_ok (M : Int) (h0 : 0 ≤ M) (h1 : M ≤ 34450) : Ev (fun k => day_Size.f k M) (fM (M + 1) - fM M) := by
  have hs := aM_step (M / 12 + 1) (M % 12 + 1) (by omega) (by omega)
  unfold day_Size.f
  refine Ev.bind maxMonth_ok ?_
  rw [show mx 0 (mn M 34450) = M by unfold mx mn; split <;> split <;> omega, w64 (a := M / 12) (by omega) (by omega), w64 (a := M / 12 + 1) (by omega) (by omega), ahead_ok _ _ (by omega) (by omega) (by omega), ahead_ok _ _ (by omega) (by omega) (by omega)]
  simp only [Option.bind_some]
  rw [fM_step M h0, w64 (by omega) (by omega)]
  exact Ev.some_ (by omega)
/-- Months: what it comes to, for any day and number. -/
theorem months_ok (d n : Int) : ∃ v, Ev (fun k => day_Months.f k d n) v ∧ 0 ≤ v ∧ v ≤ 1048575 ∧
    ((0 ≤ d ∧ d ≤ 1000000 ∧ 0 ≤ n ∧ n ≤ 100) → ∃ M dd, 0 ≤ M ∧ M ≤ 34000 ∧ 1 ≤ dd ∧ d = fM M + dd - 1 ∧ d < fM (M + 1) ∧ v = fM (M + n) + min dd (fM (M + n + 1) - fM (M + n)) - 1) := by
  obtain ⟨y, m, dd, M, hp, a1, a2, a3, a4, hM, a5, a6, a7⟩ := parts_ok (max 0 (min d 1048575)) (by omega) (by omega)
  have hmo := month_ok _ M y m dd hp a1 a2 a3 a4 hM
  have hM0 : 0 ≤ M := by omega
  have hMx : M ≤ 36000 := by omega
  have hn : (mx (-40000) (mn n 40000)) = max (-40000) (min n 40000) := by unfold mx mn; split <;> split <;> omega
  generalize hN : max (-40000) (min n 40000) = N at hn
  have key : ∀ v, (if M + N < 0 then v = 0 else if M + N > 34450 then v = 1048575 else v = max 0 (min (fM (M + N) + min dd (fM (M + N + 1) - fM (M + N)) - 1) 1048575)) → Ev (fun k => day_Months.f k d n) v := by
    intro v hv
    unfold day_Months.f
    rw [clamp_ok]
    simp only [Option.bind_some]
    refine Ev.bind hp (Ev.bind hmo ?_)
    rw [hn, w64 (a := M + N) (by omega) (by omega)]
    by_cases c1 : M + N < 0
    · rw [if_pos c1] at hv; subst hv; exact Ev.ite_pos c1 (Ev.now _)
    · rw [if_neg c1] at hv
      refine Ev.ite_neg c1 (Ev.bind maxMonth_ok ?_)
      by_cases c2 : M + N > 34450
      · rw [if_pos c2] at hv; subst hv; exact Ev.ite_pos c2 (Ev.now _)
      · rw [if_neg c2] at hv; subst hv
        refine Ev.ite_neg c2 ?_
        have hf := fM_mono (M + N) 34450 (by omega) (by omega)
        have hf0 := fM_mono 0 (M + N) (by omega) (by omega)
        have hz : fM 0 = 0 := by decide
        have hm := fM_max
        have hb := fM_bd (M + N) (by omega)
        refine Ev.bind (mfirst_ok (M + N) (by omega) (by omega)) (Ev.bind (size_ok (M + N) (by omega) (by omega)) ?_)
        simp only
        rw [show mn dd (fM (M + N + 1) - fM (M + N)) = min dd (fM (M + N + 1) - fM (M + N)) by unfold mn; split <;> omega,
          w64 (a := fM (M + N) + min dd (fM (M + N + 1) - fM (M + N))) (by omega) (by omega), w64 (by omega) (by omega), clamp_ok]
        simp only [Option.bind_some]
        exact Ev.now _
  by_cases c1 : M + N < 0
  · exact ⟨0, key 0 (by rw [if_pos c1]), by omega, by omega, fun h => by omega⟩
  · by_cases c2 : M + N > 34450
    · refine ⟨1048575, key _ (by rw [if_neg c1, if_pos c2]), by omega, by omega, fun h => ?_⟩
      have : fM 34000 ≤ fM M := fM_mono 34000 M (by omega) (by omega)
      have e : fM 34000 = 1034852 := by decide +kernel
      omega
    · refine ⟨_, key _ (by rw [if_neg c1, if_neg c2]), by omega, by omega, fun h => ?_⟩
      obtain rfl : N = n := by omega
      have hf := fM_mono (M + N + 1) 34450
      have hfa := fM_mono (M + N) 34450 (by omega) (by omega)
      have hf0 := fM_mono 0 (M + N) (by omega) (by omega)
      have hz : fM 0 = 0 := by decide
      have hm := fM_max
      have hb := fM_bd (M + N) (by omega)
      have h34 : M ≤ 33000 := by
        by_cases c : M ≤ 33000
        · exact c
        · have : fM 33000 ≤ fM M := fM_mono 33000 M (by omega) (by omega)
          have e : fM 33000 = 1004416 := by decide +kernel
          omega
      have := hf (by omega) (by omega)
      refine ⟨M, dd, hM0, by omega, a5, by omega, by omega, ?_⟩
      omega
end Go.Proofs.Ytghnbiknghelpaa.Pure
