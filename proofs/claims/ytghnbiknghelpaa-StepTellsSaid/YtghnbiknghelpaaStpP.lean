/- Plain lemmas, picked by pick.py out of this seat's other plain texts. -/
import Derived.Test.YtghnbiknghelpaaPStpx0
import Derived.Test.YtghnbiknghelpaaPStpx3
import Derived.Test.YtghnbiknghelpaaPStpx4
import Derived.Test.YtghnbiknghelpaaPStpx5
import Derived.Test.YtghnbiknghelpaaPStpx6
import Derived.Test.YtghnbiknghelpaaPStpx7
import Derived.Test.YtghnbiknghelpaaPStpx8
import Derived.Test.YtghnbiknghelpaaPStpx9
import Derived.Test.YtghnbiknghelpaaPStpx10
import Derived.Test.YtghnbiknghelpaaPStpx11
import Derived.Test.YtghnbiknghelpaaPStpx12
import Derived.Test.YtghnbiknghelpaaPStpx13
import Derived.Test.YtghnbiknghelpaaPStpx14
import Derived.Test.YtghnbiknghelpaaPStpx15
import Derived.Test.YtghnbiknghelpaaPStpx16
import Derived.Test.YtghnbiknghelpaaPStpx18
import Derived.Test.YtghnbiknghelpaaPStpx29
namespace Go.Proofs.Ytghnbiknghelpaa.Pure
open Go.RowKit Go.Proofs.Ytghnbiknghelpaa.PStp Go.Proofs.YtghnbiknghelpaaW.PrintWords Go.Proofs.YtghnbiknghelpaaW.PrintLast
set_option linter.unusedVariables false
set_option linter.unusedSimpArgs false

theorem w64 {a : Int} (h0 : -9223372036854775808 ≤ a) (h1 : a ≤ 9223372036854775807) : wrap64 a = a := by unfold wrap64; omega
theorem Ev.ite_pos {α : Type} {c : Prop} [Decidable c] {f g : Nat → Option α} {r : α} (hc : c) (h : Ev f r) : Ev (fun k => if c then f k else g k) r := Ev.congr (fun _ => if_pos hc) h
theorem Ev.ite_neg {α : Type} {c : Prop} [Decidable c] {f g : Nat → Option α} {r : α} (hc : ¬ c) (h : Ev g r) : Ev (fun k => if c then f k else g k) r := Ev.congr (fun _ => if_neg hc) h
theorem Ev.some_ {α : Type} {r r' : α} (h : r = r') : Ev (fun _ => some r) r' := h ▸ Ev.now r
theorem Ev.res {α : Type} {g : Nat → Option α} {r r' : α} (e : r' = r) (h : Ev g r) : Ev g r' := e ▸ h
theorem wf_bd {x : Int} (h : (Lit.int .i64 x).wf = true) : -9223372036854775808 ≤ x ∧ x ≤ 9223372036854775807 := by
  simpa [Lit.wf, IntKind.min, IntKind.max, IntKind.signed, IntKind.bits] using h
def cY (y : Int) : Int := 365 * (y - 1) + (y - 1) / 4 - (y - 1) / 100 + (y - 1) / 400
def leapB (y : Int) : Bool := decide (y % 4 = 0 ∧ (y % 100 ≠ 0 ∨ y % 400 = 0))
def aM (y m : Int) : Int := (367 * m - 362) / 12 - (if m ≤ 2 then 0 else if leapB y = true then 1 else 2)
def fM (M : Int) : Int := cY (M / 12 + 1) + aM (M / 12 + 1) (M % 12 + 1)
theorem first_ok (y : Int) (h1 : 1 ≤ y) (h2 : y ≤ 100000) : day_first.f y = some (cY y) := by
  unfold day_first.f cY
  rw [w64 (a := y - 1) (by omega) (by omega), Int.tdiv_eq_ediv_of_nonneg (by omega), Int.tdiv_eq_ediv_of_nonneg (by omega), Int.tdiv_eq_ediv_of_nonneg (by omega),
    w64 (a := (y - 1) / 4) (by omega) (by omega), w64 (a := (y - 1) / 100) (by omega) (by omega), w64 (a := (y - 1) / 400) (by omega) (by omega), w64 (a := 365 * (y - 1)) (by omega) (by omega),
    w64 (a := 365 * (y - 1) + (y - 1) / 4) (by omega) (by omega), w64 (a := 365 * (y - 1) + (y - 1) / 4 - (y - 1) / 100) (by omega) (by omega), w64 (by omega) (by omega)]
theorem leap_ok (y : Int) (h1 : 0 ≤ y) : day_Leap.f y = some (leapB y) := by
  unfold day_Leap.f leapB
  rw [Int.tmod_eq_emod_of_nonneg h1, Int.tmod_eq_emod_of_nonneg h1, Int.tmod_eq_emod_of_nonneg h1]
  by_cases c1 : y % 4 = 0
  · rw [if_pos c1]
    by_cases c2 : y % 100 = 0
    · rw [if_pos c2]; congr 1; rw [Bool.eq_iff_iff]; simp [c1, c2]
    · rw [if_neg c2]; congr 1; simp [c1, c2]
  · rw [if_neg c1]; congr 1; simp [c1]
theorem ahead_ok (y m : Int) (h1 : 0 ≤ y) (h2 : 1 ≤ m) (h3 : m ≤ 13) : day_ahead.f y m = some (aM y m) := by
  unfold day_ahead.f aM
  rw [w64 (a := 367 * m) (by omega) (by omega), w64 (a := 367 * m - 362) (by omega) (by omega), Int.tdiv_eq_ediv_of_nonneg (by omega), w64 (a := (367 * m - 362) / 12) (by omega) (by omega), leap_ok y h1]
  by_cases c : m ≤ 2
  · rw [if_pos c, if_pos c]; congr 1; omega
  · rw [if_neg c, if_neg c, Option.bind_some, w64 (by omega) (by omega), w64 (by omega) (by omega)]
    cases leapB y <;> simp
theorem cY_succ (y : Int) (h : 1 ≤ y) : cY (y + 1) = cY y + aM y 13 := by
  unfold cY aM leapB
  by_cases c4 : y % 4 = 0 <;> by_cases c100 : y % 100 = 0 <;> by_cases c400 : y % 400 = 0 <;> simp [c4, c100, c400] <;> omega
theorem aM_step (y m : Int) (h1 : 1 ≤ m) (h2 : m ≤ 12) : 28 ≤ aM y (m + 1) - aM y m ∧ aM y (m + 1) - aM y m ≤ 31 := by
  have hm : m = 1 ∨ m = 2 ∨ m = 3 ∨ m = 4 ∨ m = 5 ∨ m = 6 ∨ m = 7 ∨ m = 8 ∨ m = 9 ∨ m = 10 ∨ m = 11 ∨ m = 12 := by omega
  unfold aM
  cases leapB y <;> rcases hm with rfl | rfl | rfl | rfl | rfl | rfl | rfl | rfl | rfl | rfl | rfl | rfl <;> decide
theorem aM_one (y : Int) : aM y 1 = 0 := by simp [aM]
theorem fM_step (M : Int) (h : 0 ≤ M) : fM (M + 1) = fM M + (aM (M / 12 + 1) (M % 12 + 1 + 1) - aM (M / 12 + 1) (M % 12 + 1)) := by
  unfold fM
  by_cases c : M % 12 = 11
  · rw [show (M + 1) / 12 = M / 12 + 1 by omega, show (M + 1) % 12 = 0 by omega, c, show (0 : Int) + 1 = 1 from rfl, show (11 : Int) + 1 + 1 = 13 from rfl, cY_succ _ (by omega), aM_one]
    omega
  · rw [show (M + 1) / 12 = M / 12 by omega, show (M + 1) % 12 = M % 12 + 1 by omega]
    omega
theorem fM_bd (M : Int) (h : 0 ≤ M) : fM M + 28 ≤ fM (M + 1) ∧ fM (M + 1) ≤ fM M + 31 := by
  have := aM_step (M / 12 + 1) (M % 12 + 1) (by omega) (by omega)
  rw [fM_step M h]; omega
theorem fM_far (M : Int) (h : 0 ≤ M) (n : Nat) : fM M + 28 * n ≤ fM (M + n) ∧ fM (M + n) ≤ fM M + 31 * n := by
  induction n with
  | zero => simp
  | succ n ih =>
    have := fM_bd (M + n) (by omega)
    rw [show M + ((n + 1 : Nat) : Int) = M + n + 1 by omega]; omega
theorem fM_mono (M N : Int) (h : 0 ≤ M) (h2 : M ≤ N) : fM M ≤ fM N := by
  obtain ⟨n, rfl⟩ : ∃ n : Nat, N = M + n := ⟨(N - M).toNat, by omega⟩
  have := fM_far M h n; omega
theorem clamp_ok (d : Int) : day_clamp.f d = some (max 0 (min d 1048575)) := by
  unfold day_clamp.f mx mn
  congr 1
  split <;> split <;> omega
theorem parts_l1 (y rest : Int) (hy : 1 ≤ y) (hy2 : y ≤ 4000) (h0 : 0 ≤ rest) (hr : rest < aM y 13) : ∀ (n : Nat) (m : Int), (12 - m).toNat = n → 1 ≤ m → m ≤ 12 → aM y m ≤ rest →
    ∃ m', 1 ≤ m' ∧ m' ≤ 12 ∧ aM y m' ≤ rest ∧ rest < aM y (m' + 1) ∧ Ev (fun k => day_Parts.l1 k y rest m) (y, m', rest - aM y m' + 1) := by
  have hb : aM y 13 ≤ 400 := by unfold aM; (split; omega; split <;> omega)
  have hlo : ∀ m : Int, 1 ≤ m → m ≤ 12 → 0 ≤ aM y m := by intro m h1 h2; unfold aM; (split; omega; split <;> omega)
  intro n
  induction n with
  | zero =>
    intro m hn h1 h2 ha
    obtain rfl : m = 12 := by omega
    have := hlo 12 (by omega) (by omega)
    refine ⟨12, by omega, by omega, ha, hr, ?_⟩
    apply Ev.step
    · intro k; rw [day_Parts.l1]
    · refine Ev.ite_neg (by omega) ?_
      rw [ahead_ok y 12 (by omega) (by omega) (by omega)]; simp only [Option.bind_some]; rw [w64 (a := rest - aM y 12) (by omega) (by omega), w64 (by omega) (by omega)]
      exact Ev.now _
  | succ n ih =>
    intro m hn h1 h2 ha
    have := hlo m (by omega) (by omega)
    by_cases c : aM y (m + 1) ≤ rest
    · obtain ⟨m', a1, a2, a3, a4, a5⟩ := ih (m + 1) (by omega) (by omega) (by omega) c
      refine ⟨m', a1, a2, a3, a4, ?_⟩
      apply Ev.step
      · intro k; rw [day_Parts.l1]
      · refine Ev.ite_pos (by omega) ?_
        rw [w64 (a := m + 1) (by omega) (by omega), ahead_ok y (m + 1) (by omega) (by omega) (by omega)]; simp only [Option.bind_some]
        exact Ev.ite_pos c a5
    · refine ⟨m, h1, h2, ha, by omega, ?_⟩
      apply Ev.step
      · intro k; rw [day_Parts.l1]
      · refine Ev.ite_pos (by omega) ?_
        rw [w64 (a := m + 1) (by omega) (by omega), ahead_ok y (m + 1) (by omega) (by omega) (by omega)]; simp only [Option.bind_some]
        refine Ev.ite_neg c ?_
        rw [ahead_ok y m (by omega) (by omega) (by omega)]; simp only [Option.bind_some]; rw [w64 (a := rest - aM y m) (by omega) (by omega), w64 (by omega) (by omega)]
        exact Ev.now _
theorem parts_l0 (d : Int) (hd0 : 0 ≤ d) (hd1 : d ≤ 1048575) : ∀ (n : Nat) (y : Int), (3000 - y).toNat = n → 1 ≤ y → y ≤ 3000 → cY y ≤ d →
    ∃ y', 1 ≤ y' ∧ y' ≤ 3000 ∧ cY y' ≤ d ∧ d < cY (y' + 1) ∧ ∀ r, Ev (fun k => day_Parts.l1 k y' (d - cY y') 1) r → Ev (fun k => day_Parts.l0 k d y) r := by
  have hc : ∀ y : Int, 1 ≤ y → 0 ≤ cY y := by intro y h; unfold cY; omega
  intro n
  induction n with
  | zero =>
    intro y hn h1 h2 ha
    obtain rfl : y = 3000 := by omega
    exfalso
    have : cY 3000 = 1095362 := by decide
    omega
  | succ n ih =>
    intro y hn h1 h2 ha
    by_cases c : cY (y + 1) ≤ d
    · obtain ⟨y', a1, a2, a3, a4, a5⟩ := ih (y + 1) (by omega) (by omega) (by omega) c
      refine ⟨y', a1, a2, a3, a4, fun r hr => ?_⟩
      apply Ev.step
      · intro k; rw [day_Parts.l0]
      · rw [w64 (a := y + 1) (by omega) (by omega), first_ok (y + 1) (by omega) (by omega)]; simp only [Option.bind_some]
        exact Ev.ite_pos c (a5 r hr)
    · refine ⟨y, h1, h2, ha, by omega, fun r hr => ?_⟩
      have := hc y h1
      apply Ev.step
      · intro k; rw [day_Parts.l0]
      · rw [w64 (a := y + 1) (by omega) (by omega), first_ok (y + 1) (by omega) (by omega)]; simp only [Option.bind_some]
        refine Ev.ite_neg c ?_
        rw [first_ok y (by omega) (by omega)]; simp only [Option.bind_some]; rw [w64 (by omega) (by omega)]
        exact hr
theorem parts_ok (d : Int) (hd0 : 0 ≤ d) (hd1 : d ≤ 1048575) : ∃ y m dd M, Ev (fun k => day_Parts.f k d) (y, m, dd) ∧ 1 ≤ y ∧ y ≤ 3000 ∧ 1 ≤ m ∧ m ≤ 12 ∧ M = 12 * (y - 1) + m - 1 ∧ 1 ≤ dd ∧ d = fM M + dd - 1 ∧ d < fM (M + 1) := by
  have hstart : cY (400 * (d / 146097) + d % 146097 / 366 + 1) ≤ d := by unfold cY; omega
  obtain ⟨y, a1, a2, a3, a4, a5⟩ := parts_l0 d hd0 hd1 _ (400 * (d / 146097) + d % 146097 / 366 + 1) rfl (by omega) (by omega) hstart
  rw [cY_succ y a1] at a4
  obtain ⟨m, b1, b2, b3, b4, b5⟩ := parts_l1 y (d - cY y) a1 (by omega) (by omega) (by omega) _ 1 rfl (by omega) (by omega) (by rw [aM_one]; omega)
  have e1 : (12 * (y - 1) + m - 1) / 12 + 1 = y := by omega
  have e2 : (12 * (y - 1) + m - 1) % 12 + 1 = m := by omega
  refine ⟨y, m, d - cY y - aM y m + 1, 12 * (y - 1) + m - 1, ?_, a1, a2, b1, b2, rfl, by omega, ?_, ?_⟩
  · unfold day_Parts.f
    rw [clamp_ok]; simp only [Option.bind_some]; rw [show max 0 (min d 1048575) = d by omega, Int.tdiv_eq_ediv_of_nonneg hd0, Int.tmod_eq_emod_of_nonneg hd0, Int.tdiv_eq_ediv_of_nonneg (by omega),
      w64 (a := d / 146097) (by omega) (by omega), w64 (a := 400 * (d / 146097)) (by omega) (by omega), w64 (a := d % 146097 / 366) (by omega) (by omega), w64 (a := 400 * (d / 146097) + d % 146097 / 366) (by omega) (by omega), w64 (by omega) (by omega)]
    exact a5 _ b5
  · unfold fM; rw [e1, e2]; omega
  · rw [fM_step _ (by omega)]; unfold fM; rw [e1, e2]; omega
theorem month_ok (d M : Int) (y m dd : Int) (h : Ev (fun k => day_Parts.f k d) (y, m, dd)) (hy : 1 ≤ y) (hy2 : y ≤ 3000) (hm : 1 ≤ m) (hm2 : m ≤ 12) (hM : M = 12 * (y - 1) + m - 1) : Ev (fun k => day_Month.f k d) M := by
  unfold day_Month.f
  refine Ev.bind h (Ev.some_ ?_)
  simp only
  rw [w64 (a := y - 1) (by omega) (by omega), w64 (a := 12 * (y - 1)) (by omega) (by omega), w64 (a := 12 * (y - 1) + m) (by omega) (by omega), w64 (by omega) (by omega), hM]
theorem maxMonth_ok : Ev (fun k => day_Month.f k 1048575) 34450 := Ev.of (day_Month.mono 1048575) (k := 40) (by decide +kernel)
theorem fM_max : fM 34450 = 1048550 := by decide +kernel
theorem fM_max1 : fM 34451 = 1048580 := by decide +kernel
theorem mfirst_ok (M : Int) (h0 : 0 ≤ M) (h1 : M ≤ 34450) : Ev (fun k => day_First.f k M) (fM M) := by
  have hb := fM_mono M 34450 h0 h1
  have h2 := fM_max
  have h00 : 0 ≤ cY (M / 12 + 1) := by unfold cY; omega
  have hlo : 0 ≤ aM (M / 12 + 1) (M % 12 + 1) := by unfold aM; (split; omega; split <;> omega)
  have hhi : aM (M / 12 + 1) (M % 12 + 1) ≤ 400 := by unfold aM; (split; omega; split <;> omega)
  unfold day_First.f
  refine Ev.bind maxMonth_ok ?_
  rw [show mx 0 (mn M 34450) = M by unfold mx mn; split <;> split <;> omega, w64 (a := M / 12) (by omega) (by omega), w64 (a := M / 12 + 1) (by omega) (by omega), first_ok _ (by omega) (by omega), ahead_ok _ _ (by omega) (by omega) (by omega)]
  simp only [Option.bind_some]
  have e : fM M = cY (M / 12 + 1) + aM (M / 12 + 1) (M % 12 + 1) := rfl
  rw [w64 (by omega) (by omega)]
  exact Ev.some_ rfl
theorem size_ok (M : Int) (h0 : 0 ≤ M) (h1 : M ≤ 34450) : Ev (fun k => day_Size.f k M) (fM (M + 1) - fM M) := by
  have hs := aM_step (M / 12 + 1) (M % 12 + 1) (by omega) (by omega)
  unfold day_Size.f
  refine Ev.bind maxMonth_ok ?_
  rw [show mx 0 (mn M 34450) = M by unfold mx mn; split <;> split <;> omega, w64 (a := M / 12) (by omega) (by omega), w64 (a := M / 12 + 1) (by omega) (by omega), ahead_ok _ _ (by omega) (by omega) (by omega), ahead_ok _ _ (by omega) (by omega) (by omega)]
  simp only [Option.bind_some]
  rw [fM_step M h0, w64 (by omega) (by omega)]
  exact Ev.some_ (by omega)
theorem months_ok (d n : Int) : ∃ v, Ev (fun k => day_Months.f k d n) v ∧ 0 ≤ v ∧ v ≤ 1048575 ∧
    ((0 ≤ d ∧ d ≤ 1000000 ∧ 0 ≤ n ∧ n ≤ 100) → ∃ M dd, 0 ≤ M ∧ M ≤ 34000 ∧ 1 ≤ dd ∧ d = fM M + dd - 1 ∧ d < fM (M + 1) ∧ v = fM (M + n) + min dd (fM (M + n + 1) - fM (M + n)) - 1) := by
  obtain ⟨y, m, dd, M, hp, a1, a2, a3, a4, hM, a5, a6, a7⟩ := parts_ok (max 0 (min d 1048575)) (by omega) (by omega)
  have hmo := month_ok _ M y m dd hp a1 a2 a3 a4 hM
  have hM0 : 0 ≤ M := by omega
  have hMx : M ≤ 36000 := by omega
  have hn : (mx (-40000) (mn n 40000)) = max (-40000) (min n 40000) := by unfold mx mn; split <;> split <;> omega
  generalize hN : max (-40000) (min n 40000) = N at hn
  have key : ∀ v, (if M + N < 0 then v = 0 else if M + N > 34450 then v = 1048575 else v = max 0 (min (fM (M + N) + min dd (fM (M + N + 1) - fM (M + N)) - 1) 1048575)) → Ev (fun k => day_Months.f k d n) v := by
    intro v hv
    unfold day_Months.f
    rw [clamp_ok]
    simp only [Option.bind_some]
    refine Ev.bind hp (Ev.bind hmo ?_)
    rw [hn, w64 (a := M + N) (by omega) (by omega)]
    by_cases c1 : M + N < 0
    · rw [if_pos c1] at hv; subst hv; exact Ev.ite_pos c1 (Ev.now _)
    · rw [if_neg c1] at hv
      refine Ev.ite_neg c1 (Ev.bind maxMonth_ok ?_)
      by_cases c2 : M + N > 34450
      · rw [if_pos c2] at hv; subst hv; exact Ev.ite_pos c2 (Ev.now _)
      · rw [if_neg c2] at hv; subst hv
        refine Ev.ite_neg c2 ?_
        have hf := fM_mono (M + N) 34450 (by omega) (by omega)
        have hf0 := fM_mono 0 (M + N) (by omega) (by omega)
        have hz : fM 0 = 0 := by decide
        have hm := fM_max
        have hb := fM_bd (M + N) (by omega)
        refine Ev.bind (mfirst_ok (M + N) (by omega) (by omega)) (Ev.bind (size_ok (M + N) (by omega) (by omega)) ?_)
        simp only
        rw [show mn dd (fM (M + N + 1) - fM (M + N)) = min dd (fM (M + N + 1) - fM (M + N)) by unfold mn; split <;> omega,
          w64 (a := fM (M + N) + min dd (fM (M + N + 1) - fM (M + N))) (by omega) (by omega), w64 (by omega) (by omega), clamp_ok]
        simp only [Option.bind_some]
        exact Ev.now _
  by_cases c1 : M + N < 0
  · exact ⟨0, key 0 (by rw [if_pos c1]), by omega, by omega, fun h => by omega⟩
  · by_cases c2 : M + N > 34450
    · refine ⟨1048575, key _ (by rw [if_neg c1, if_pos c2]), by omega, by omega, fun h => ?_⟩
      have : fM 34000 ≤ fM M := fM_mono 34000 M (by omega) (by omega)
      have e : fM 34000 = 1034852 := by decide +kernel
      omega
    · refine ⟨_, key _ (by rw [if_neg c1, if_neg c2]), by omega, by omega, fun h => ?_⟩
      obtain rfl : N = n := by omega
      have hf := fM_mono (M + N + 1) 34450
      have hfa := fM_mono (M + N) 34450 (by omega) (by omega)
      have hf0 := fM_mono 0 (M + N) (by omega) (by omega)
      have hz : fM 0 = 0 := by decide
      have hm := fM_max
      have hb := fM_bd (M + N) (by omega)
      have h34 : M ≤ 33000 := by
        by_cases c : M ≤ 33000
        · exact c
        · have : fM 33000 ≤ fM M := fM_mono 33000 M (by omega) (by omega)
          have e : fM 33000 = 1004416 := by decide +kernel
          omega
      have := hf (by omega) (by omega)
      refine ⟨M, dd, hM0, by omega, a5, by omega, by omega, ?_⟩
      omega
abbrev St := Int × Int × Int × Int × Int
def byV (kind who : Int) : Bool := if kind = 2 ∨ kind = 3 then who == 2 else if kind = 5 then (who == 2 || who == 1) else who == 1
def afterV (is kind : Int) : Int :=
  if kind = 1 ∧ is = 0 then 1 else if kind = 2 ∧ (is = 1 ∨ is = 5 ∨ is = 6) then 2 else if kind = 3 ∧ is = 2 then 3 else if kind = 4 ∧ is = 3 then 5
  else if kind = 5 ∧ is = 4 then 6 else if kind = 6 ∧ is ≠ 0 ∧ is ≠ 3 ∧ is ≠ 4 ∧ is ≠ 7 then 7 else 0
def onV (m1 : Int) (s : St) (d : Int) : St := if s.1 = 3 ∧ d > m1 then (4, wrap64 (m1 + 1), s.2.2) else s
def baseV (n : Int) (s : St) : St := if n = 1 then (0, 0, 0, -1, 0) else s
def putV (n kind day : Int) (s : St) : Int × Int × Int × Int × Int × Int :=
  (n, day, (if kind = 1 ∨ kind = 4 ∨ kind = 5 then day else s.2.2.1), (if n = 3 then day else s.2.2.2.1), (if n = 3 then wrap64 (s.2.2.2.2 + 1) else s.2.2.2.2), 0)
def nextV (m1 m48 : Int) (s : St) (kind who day : Int) : Int × Int × Int × Int × Int × Int :=
  if kind < 1 ∨ kind > 6 ∨ day < 0 ∨ day > 1048575 then (0, 0, 0, 0, 0, 1) else if byV kind who = false then (0, 0, 0, 0, 0, 19)
  else if s.1 ≠ 0 ∧ day < s.2.1 then (0, 0, 0, 0, 0, 9)
  else if afterV (onV m1 s day).1 kind = 0 then (0, 0, 0, 0, 0, 7) else if kind = 5 ∧ day > m48 then (0, 0, 0, 0, 0, 18)
  else putV (afterV (onV m1 s day).1 kind) kind day (baseV (afterV (onV m1 s day).1 kind) (onV m1 s day))
theorem by_ok (kind who day : Int) : Ev (fun k => step_by.f k kind who day) (byV kind who) := by
  unfold step_by.f byV
  by_cases c2 : kind = 2
  · refine Ev.ite_pos c2 ?_
    refine Ev.res (if_pos (Or.inl c2)) ?_
    apply Ev.step
    · intro k; rw [step_by.j0]
    · exact Ev.ite_pos (by simp [c2]) (Ev.now _)
  · refine Ev.ite_neg c2 ?_
    by_cases c3 : kind = 3
    · refine Ev.res (if_pos (Or.inr c3)) ?_
      apply Ev.step
      · intro k; rw [step_by.j0]
      · exact Ev.ite_pos (by simp [c3]) (Ev.now _)
    · refine Ev.res (if_neg (by omega)) ?_
      apply Ev.step
      · intro k; rw [step_by.j0]
      · refine Ev.ite_neg (by simp [c3]) ?_
        by_cases c5 : kind = 5
        · refine Ev.res (if_pos c5) ?_
          refine Ev.ite_pos c5 ?_
          by_cases w2 : who = 2
          · exact Ev.ite_pos w2 (Ev.some_ (by simp [w2]))
          · exact Ev.ite_neg w2 (Ev.some_ (by simp [w2]))
        · refine Ev.res (if_neg c5) ?_
          exact Ev.ite_neg c5 (Ev.now _)
theorem on_ok (m1 : Int) (s : St) (d : Int) (h : Ev (fun k => day_Months.f k s.2.2.2.1 1) m1) : Ev (fun k => step_On.f k s.1 s.2.1 s.2.2.1 s.2.2.2.1 s.2.2.2.2 d) (onV m1 s d) := by
  unfold step_On.f onV
  refine Ev.bind h ?_
  by_cases c1 : s.1 = 3
  · refine Ev.ite_pos c1 ?_
    by_cases c2 : d > m1
    · refine Ev.res (if_pos ⟨c1, c2⟩) ?_; exact Ev.ite_pos c2 (Ev.now _)
    · refine Ev.res (if_neg (fun c => c2 c.2)) ?_; exact Ev.ite_neg c2 (Ev.now _)
  · refine Ev.res (if_neg (fun c => c1 c.1)) ?_; exact Ev.ite_neg c1 (Ev.now _)
theorem after_j4 (b : Bool) (a0 a1 a2 a3 a4 e0 e1 e2 : Int) : Ev (fun k => step_after.j4 k b a0 a1 a2 a3 a4 e0 e1 e2) (if b = true then 6 else if e0 = 6 ∧ a0 ≠ 0 ∧ a0 ≠ 3 ∧ a0 ≠ 4 ∧ a0 ≠ 7 then 7 else 0) := by
  apply Ev.step
  · intro k; rw [step_after.j4]
  · by_cases h : b = true
    · refine Ev.res (if_pos h) ?_; exact Ev.ite_pos h (Ev.now _)
    · refine Ev.res (if_neg h) ?_; refine Ev.ite_neg h ?_
      by_cases c : e0 = 6
      · refine Ev.ite_pos c ?_
        by_cases c0 : a0 = 0
        · exact Ev.ite_pos c0 (Ev.some_ (by rw [if_neg (by omega)]))
        · refine Ev.ite_neg c0 ?_
          by_cases c3 : a0 = 3
          · exact Ev.ite_pos c3 (Ev.some_ (by rw [if_neg (by omega)]))
          · refine Ev.ite_neg c3 ?_
            by_cases c4 : a0 = 4
            · exact Ev.ite_pos c4 (Ev.some_ (by rw [if_neg (by omega)]))
            · refine Ev.ite_neg c4 ?_
              by_cases c7 : a0 = 7
              · exact Ev.ite_pos c7 (Ev.some_ (by rw [if_neg (by omega)]))
              · exact Ev.ite_neg c7 (Ev.some_ (by rw [if_pos (by omega)]))
      · exact Ev.ite_neg c (Ev.some_ (by rw [if_neg (by omega)]))
theorem after_j3 (b : Bool) (a0 a1 a2 a3 a4 e0 e1 e2 r : Int) (h1 : b = true → r = 5) (h2 : ¬ b = true → r = (if e0 = 5 ∧ a0 = 4 then 6 else if e0 = 6 ∧ a0 ≠ 0 ∧ a0 ≠ 3 ∧ a0 ≠ 4 ∧ a0 ≠ 7 then 7 else 0)) : Ev (fun k => step_after.j3 k b a0 a1 a2 a3 a4 e0 e1 e2) r := by
  apply Ev.step
  · intro k; rw [step_after.j3]
  · by_cases h : b = true
    · exact Ev.ite_pos h (Ev.some_ (h1 h).symm)
    · refine Ev.ite_neg h ?_
      rw [h2 h]
      by_cases c : e0 = 5
      · refine Ev.ite_pos c ?_
        have e := after_j4 (a0 == 4) a0 a1 a2 a3 a4 e0 e1 e2
        simpa [c] using e
      · refine Ev.ite_neg c ?_
        have e := after_j4 false a0 a1 a2 a3 a4 e0 e1 e2
        simpa [c] using e
theorem after_j2 (b : Bool) (a0 a1 a2 a3 a4 e0 e1 e2 r : Int) (h1 : b = true → r = 3) (h2 : ¬ b = true → r = (if e0 = 4 ∧ a0 = 3 then 5 else if e0 = 5 ∧ a0 = 4 then 6 else if e0 = 6 ∧ a0 ≠ 0 ∧ a0 ≠ 3 ∧ a0 ≠ 4 ∧ a0 ≠ 7 then 7 else 0)) : Ev (fun k => step_after.j2 k b a0 a1 a2 a3 a4 e0 e1 e2) r := by
  apply Ev.step
  · intro k; rw [step_after.j2]
  · by_cases h : b = true
    · exact Ev.ite_pos h (Ev.some_ (h1 h).symm)
    · refine Ev.ite_neg h ?_
      by_cases c : e0 = 4
      · refine Ev.ite_pos c (after_j3 _ _ _ _ _ _ _ _ _ _ (fun q => ?_) (fun q => ?_))
        · rw [h2 h, if_pos ⟨c, by simpa using q⟩]
        · rw [h2 h, if_neg (fun z => q (by simpa using z.2))]
      · refine Ev.ite_neg c (after_j3 _ _ _ _ _ _ _ _ _ _ (fun q => by cases q) (fun q => ?_))
        rw [h2 h, if_neg (fun z => c z.1)]
theorem after_j1 (b : Bool) (a0 a1 a2 a3 a4 e0 e1 e2 r : Int) (h1 : b = true → r = 2) (h2 : ¬ b = true → r = (if e0 = 3 ∧ a0 = 2 then 3 else if e0 = 4 ∧ a0 = 3 then 5 else if e0 = 5 ∧ a0 = 4 then 6 else if e0 = 6 ∧ a0 ≠ 0 ∧ a0 ≠ 3 ∧ a0 ≠ 4 ∧ a0 ≠ 7 then 7 else 0)) : Ev (fun k => step_after.j1 k b a0 a1 a2 a3 a4 e0 e1 e2) r := by
  apply Ev.step
  · intro k; rw [step_after.j1]
  · by_cases h : b = true
    · exact Ev.ite_pos h (Ev.some_ (h1 h).symm)
    · refine Ev.ite_neg h ?_
      by_cases c : e0 = 3
      · refine Ev.ite_pos c (after_j2 _ _ _ _ _ _ _ _ _ _ (fun q => ?_) (fun q => ?_))
        · rw [h2 h, if_pos ⟨c, by simpa using q⟩]
        · rw [h2 h, if_neg (fun z => q (by simpa using z.2))]
      · refine Ev.ite_neg c (after_j2 _ _ _ _ _ _ _ _ _ _ (fun q => by cases q) (fun q => ?_))
        rw [h2 h, if_neg (fun z => c z.1)]
theorem after_j0 (b : Bool) (a0 a1 a2 a3 a4 e0 e1 e2 r : Int) (h1 : b = true → r = 1) (h2 : ¬ b = true → r = (if e0 = 2 ∧ (a0 = 1 ∨ a0 = 5 ∨ a0 = 6) then 2 else if e0 = 3 ∧ a0 = 2 then 3 else if e0 = 4 ∧ a0 = 3 then 5 else if e0 = 5 ∧ a0 = 4 then 6 else if e0 = 6 ∧ a0 ≠ 0 ∧ a0 ≠ 3 ∧ a0 ≠ 4 ∧ a0 ≠ 7 then 7 else 0)) : Ev (fun k => step_after.j0 k b a0 a1 a2 a3 a4 e0 e1 e2) r := by
  apply Ev.step
  · intro k; rw [step_after.j0]
  · by_cases h : b = true
    · exact Ev.ite_pos h (Ev.some_ (h1 h).symm)
    · refine Ev.ite_neg h ?_
      by_cases c : e0 = 2
      · refine Ev.ite_pos c ?_
        by_cases c1 : a0 = 1
        · exact Ev.ite_pos c1 (after_j1 _ _ _ _ _ _ _ _ _ _ (fun _ => by rw [h2 h, if_pos ⟨c, Or.inl c1⟩]) (fun q => absurd rfl q))
        · refine Ev.ite_neg c1 ?_
          by_cases c5 : a0 = 5
          · exact Ev.ite_pos c5 (after_j1 _ _ _ _ _ _ _ _ _ _ (fun _ => by rw [h2 h, if_pos ⟨c, Or.inr (Or.inl c5)⟩]) (fun q => absurd rfl q))
          · refine Ev.ite_neg c5 (after_j1 _ _ _ _ _ _ _ _ _ _ (fun q => ?_) (fun q => ?_))
            · rw [h2 h, if_pos ⟨c, Or.inr (Or.inr (by simpa using q))⟩]
            · rw [h2 h, if_neg (fun z => z.2.elim c1 (fun z => z.elim c5 (fun z => q (by simpa using z))))]
      · refine Ev.ite_neg c (after_j1 _ _ _ _ _ _ _ _ _ _ (fun q => by cases q) (fun q => ?_))
        rw [h2 h, if_neg (fun z => c z.1)]
theorem after_ok (a0 a1 a2 a3 a4 e0 e1 e2 : Int) : Ev (fun k => step_after.f k a0 a1 a2 a3 a4 e0 e1 e2) (afterV a0 e0) := by
  unfold step_after.f afterV
  by_cases c : e0 = 1
  · refine Ev.ite_pos c (after_j0 _ _ _ _ _ _ _ _ _ _ (fun q => ?_) (fun q => ?_))
    · rw [if_pos ⟨c, by simpa using q⟩]
    · rw [if_neg (fun z => q (by simpa using z.2))]
  · refine Ev.ite_neg c (after_j0 _ _ _ _ _ _ _ _ _ _ (fun q => by cases q) (fun q => ?_))
    rw [if_neg (fun z => c z.1)]
theorem onV_dec (m1 : Int) (s : St) (d : Int) : (onV m1 s d).2.2 = s.2.2 := by unfold onV; split <;> rfl
theorem next_j4 (x6 : Int) (b : Bool) (s : St) (e0 e1 e2 : Int) (hb : b = decide (e0 = 1 ∨ e0 = 4 ∨ e0 = 5)) : Ev (fun k => step_Next.j4 k x6 b s.1 s.2.1 s.2.2.1 s.2.2.2.1 s.2.2.2.2 e0 e1 e2) (putV x6 e0 e2 s) := by
  subst hb
  apply Ev.step
  · intro k; rw [step_Next.j4]
  · by_cases h : e0 = 1 ∨ e0 = 4 ∨ e0 = 5
    · refine Ev.ite_pos (decide_eq_true h) ?_
      by_cases c : x6 = 3
      · exact Ev.ite_pos c (Ev.some_ (by simp [putV, h, c]))
      · exact Ev.ite_neg c (Ev.some_ (by simp [putV, h, c]))
    · refine Ev.ite_neg (by rw [decide_eq_false h]; exact Bool.false_ne_true) ?_
      by_cases c : x6 = 3
      · exact Ev.ite_pos c (Ev.some_ (by simp [putV, h, c]))
      · exact Ev.ite_neg c (Ev.some_ (by simp [putV, h, c]))
theorem next_j3 (x6 : Int) (s : St) (e0 e1 e2 : Int) : Ev (fun k => step_Next.j3 k x6 s.1 s.2.1 s.2.2.1 s.2.2.2.1 s.2.2.2.2 e0 e1 e2) (putV x6 e0 e2 s) := by
  apply Ev.step
  · intro k; rw [step_Next.j3]
  · by_cases c1 : e0 = 1
    · exact Ev.ite_pos c1 (next_j4 x6 true s e0 e1 e2 (by simp [c1]))
    · refine Ev.ite_neg c1 ?_
      by_cases c4 : e0 = 4
      · exact Ev.ite_pos c4 (next_j4 x6 true s e0 e1 e2 (by simp [c4]))
      · exact Ev.ite_neg c4 (next_j4 x6 _ s e0 e1 e2 (by simp only [c1, c4, false_or]; rw [Bool.eq_iff_iff]; simp))
theorem next_j2 (x6 : Int) (b : Bool) (s : St) (e0 e1 e2 : Int) : Ev (fun k => step_Next.j2 k x6 b s.1 s.2.1 s.2.2.1 s.2.2.2.1 s.2.2.2.2 e0 e1 e2) (if b = true then (0, 0, 0, 0, 0, 18) else putV x6 e0 e2 (baseV x6 s)) := by
  apply Ev.step
  · intro k; rw [step_Next.j2]
  · by_cases h : b = true
    · refine Ev.res (if_pos h) ?_; exact Ev.ite_pos h (Ev.now _)
    · refine Ev.res (if_neg h) ?_; refine Ev.ite_neg h ?_
      by_cases c : x6 = 1
      · refine Ev.res (show putV x6 e0 e2 (baseV x6 s) = putV x6 e0 e2 (0, 0, 0, -1, 0) by rw [baseV, if_pos c]) ?_; exact Ev.ite_pos c (next_j3 x6 (0, 0, 0, -1, 0) e0 e1 e2)
      · refine Ev.res (show putV x6 e0 e2 (baseV x6 s) = putV x6 e0 e2 s by rw [baseV, if_neg c]) ?_; exact Ev.ite_neg c (next_j3 x6 s e0 e1 e2)
theorem next_j1 (m1 m48 : Int) (s : St) (e0 e1 e2 : Int) (h1 : Ev (fun k => day_Months.f k s.2.2.2.1 1) m1) (h48 : Ev (fun k => day_Months.f k s.2.2.2.1 48) m48) :
    Ev (fun k => step_Next.j1 k s.1 s.2.1 s.2.2.1 s.2.2.2.1 s.2.2.2.2 e0 e1 e2) (if afterV (onV m1 s e2).1 e0 = 0 then (0, 0, 0, 0, 0, 7) else if e0 = 5 ∧ e2 > m48 then (0, 0, 0, 0, 0, 18)
      else putV (afterV (onV m1 s e2).1 e0) e0 e2 (baseV (afterV (onV m1 s e2).1 e0) (onV m1 s e2))) := by
  apply Ev.step
  · intro k; rw [step_Next.j1]
  · refine Ev.bind (on_ok m1 s e2 h1) (Ev.bind (after_ok _ _ _ _ _ _ _ _) ?_)
    by_cases c0 : afterV (onV m1 s e2).1 e0 = 0
    · refine Ev.res (if_pos c0) ?_; exact Ev.ite_pos c0 (Ev.now _)
    · refine Ev.res (if_neg c0) ?_; refine Ev.ite_neg c0 ?_
      by_cases c5 : e0 = 5
      · refine Ev.ite_pos c5 ?_
        have hd : (onV m1 s e2).2.2.2.1 = s.2.2.2.1 := by rw [onV_dec]
        rw [hd]
        refine Ev.bind h48 ?_
        have e := next_j2 (afterV (onV m1 s e2).1 e0) (decide (e2 > m48)) (onV m1 s e2) e0 e1 e2
        rw [hd] at e
        by_cases c : e2 > m48
        · refine Ev.res (if_pos ⟨c5, c⟩) ?_; rw [if_pos (decide_eq_true c)] at e; exact e
        · refine Ev.res (if_neg (fun z => c z.2)) ?_; rw [if_neg (by simpa using c)] at e; exact e
      · refine Ev.ite_neg c5 ?_
        refine Ev.res (if_neg (fun z => c5 z.1)) ?_
        exact next_j2 (afterV (onV m1 s e2).1 e0) false (onV m1 s e2) e0 e1 e2
theorem next_ok1 (m1 m48 : Int) (s : St) (e0 e1 e2 : Int) (h1 : Ev (fun k => day_Months.f k s.2.2.2.1 1) m1) (h48 : Ev (fun k => day_Months.f k s.2.2.2.1 48) m48) :
    Ev (fun k => step_Next.f k s.1 s.2.1 s.2.2.1 s.2.2.2.1 s.2.2.2.2 e0 e1 e2) (nextV m1 m48 s e0 e1 e2) := by
  have j0t : Ev (fun k => step_Next.j0 k true s.1 s.2.1 s.2.2.1 s.2.2.2.1 s.2.2.2.2 e0 e1 e2) (0, 0, 0, 0, 0, 1) := by
    apply Ev.step
    · intro k; rw [step_Next.j0]
    · exact Ev.ite_pos rfl (Ev.now _)
  unfold step_Next.f nextV
  by_cases c1 : e0 < 1
  · refine Ev.res (if_pos (Or.inl c1)) ?_; exact Ev.ite_pos c1 j0t
  · refine Ev.ite_neg c1 ?_
    by_cases c2 : e0 > 6
    · refine Ev.res (if_pos (Or.inr (Or.inl c2))) ?_; exact Ev.ite_pos c2 j0t
    · refine Ev.ite_neg c2 ?_
      by_cases c3 : e2 < 0
      · refine Ev.res (if_pos (Or.inr (Or.inr (Or.inl c3)))) ?_; exact Ev.ite_pos c3 j0t
      · refine Ev.ite_neg c3 ?_
        by_cases c4 : e2 > 1048575
        · refine Ev.res (if_pos (Or.inr (Or.inr (Or.inr c4)))) ?_; rw [decide_eq_true c4]; exact j0t
        · refine Ev.res (if_neg (by omega)) ?_; rw [decide_eq_false c4]
          apply Ev.step
          · intro k; rw [step_Next.j0]
          · refine Ev.ite_neg (by decide) (Ev.bind (by_ok e0 e1 e2) ?_)
            by_cases cb : byV e0 e1 = true
            · refine Ev.res (if_neg (by rw [cb]; decide)) ?_
              refine Ev.ite_pos cb ?_
              by_cases cz : s.1 = 0
              · refine Ev.res (if_neg (fun z => z.1 cz)) ?_
                exact Ev.ite_pos cz (next_j1 m1 m48 s e0 e1 e2 h1 h48)
              · refine Ev.ite_neg cz ?_
                by_cases cd : e2 < s.2.1
                · refine Ev.res (if_pos ⟨cz, cd⟩) ?_; exact Ev.ite_pos cd (Ev.now _)
                · refine Ev.res (if_neg (fun z => cd z.2)) ?_
                  exact Ev.ite_neg cd (next_j1 m1 m48 s e0 e1 e2 h1 h48)
            · refine Ev.res (if_pos (by simpa using cb)) ?_; exact Ev.ite_neg cb (Ev.now _)
noncomputable def mon (d n : Int) : Int := (months_ok d n).choose
theorem mon_ok (d n : Int) : Ev (fun k => day_Months.f k d n) (mon d n) := (months_ok d n).choose_spec.1
theorem mon_lo (d n : Int) : 0 ≤ mon d n := (months_ok d n).choose_spec.2.1
theorem mon_hi (d n : Int) : mon d n ≤ 1048575 := (months_ok d n).choose_spec.2.2.1
theorem fM_inj (M N d : Int) (h0 : 0 ≤ M) (h1 : 0 ≤ N) (a : fM M ≤ d) (b : d < fM (M + 1)) (c : fM N ≤ d) (e : d < fM (N + 1)) : M = N := by
  rcases Int.lt_trichotomy M N with h | h | h
  · have := fM_mono (M + 1) N (by omega) (by omega); omega
  · exact h
  · have := fM_mono (N + 1) M (by omega) (by omega); omega
noncomputable def nx (s : St) (kind who day : Int) : Int × Int × Int × Int × Int × Int := nextV (mon s.2.2.2.1 1) (mon s.2.2.2.1 48) s kind who day
def err (r : Int × Int × Int × Int × Int × Int) : Int := r.2.2.2.2.2
def stOf (r : Int × Int × Int × Int × Int × Int) : St := (r.1, r.2.1, r.2.2.1, r.2.2.2.1, r.2.2.2.2.1)
theorem snext_ok (s : St) (kind who day : Int) : Ev (fun k => step_Next.f k s.1 s.2.1 s.2.2.1 s.2.2.2.1 s.2.2.2.2 kind who day) (nx s kind who day) := next_ok1 _ _ s kind who day (mon_ok _ _) (mon_ok _ _)
noncomputable def on (s : St) (d : Int) : St := onV (mon s.2.2.2.1 1) s d
theorem on_ok1 (s : St) (d : Int) : Ev (fun k => step_On.f k s.1 s.2.1 s.2.2.1 s.2.2.2.1 s.2.2.2.2 d) (on s d) := on_ok _ s d (mon_ok _ _)
noncomputable def canV (s : St) (who d : Int) : List Int := [1, 2, 3, 4, 5, 6].filter fun k => decide (err (nx s k who d) = 0)
def upFrom : Nat → Int → List Int
  | 0, _ => []
  | n + 1, i => i :: upFrom n (i + 1)
theorem can_l0 (s : St) (who d : Int) : ∀ (n : Nat) (i : Int) (x : List Int), i + n = 7 → 1 ≤ i → x.length + n ≤ 100 →
    Ev (fun k => step_Can.l0 k who d x i s.1 s.2.1 s.2.2.1 s.2.2.2.1 s.2.2.2.2) (x ++ (upFrom n i).filter fun k => decide (err (nx s k who d) = 0)) := by
  intro n
  induction n with
  | zero =>
    intro i x h h1 hx
    apply Ev.step
    · intro k; rw [step_Can.l0]
    · exact Ev.ite_neg (by omega) (Ev.some_ (by simp [upFrom]))
  | succ n ih =>
    intro i x h h1 hx
    apply Ev.step
    · intro k; rw [step_Can.l0]
    · refine Ev.ite_pos (by omega) (Ev.bind (snext_ok s i who d) ?_)
      rw [w64 (by omega) (by omega)]
      by_cases c : err (nx s i who d) = 0
      · refine Ev.ite_pos c (Ev.ite_pos (by omega) ?_)
        have e := ih (i + 1) (x ++ [i]) (by omega) (by omega) (by simp; omega)
        rw [upFrom, List.filter_cons, decide_eq_true c]
        simpa using e
      · refine Ev.ite_neg c ?_
        have e := ih (i + 1) x (by omega) (by omega) (by omega)
        rw [upFrom, List.filter_cons, decide_eq_false c]
        simpa using e
theorem can_ok (s : St) (who d : Int) : Ev (fun k => step_Can.f k s.1 s.2.1 s.2.2.1 s.2.2.2.1 s.2.2.2.2 who d) (canV s who d) := by
  unfold step_Can.f
  exact can_l0 s who d 6 1 [] (by omega) (by omega) (by simp)
theorem can_len (s : St) (who d : Int) : (canV s who d).length ≤ 6 := by unfold canV; exact List.length_filter_le _ _
theorem mem_can (s : St) (who d k : Int) : k ∈ canV s who d ↔ (1 ≤ k ∧ k ≤ 6) ∧ err (nx s k who d) = 0 := by
  unfold canV
  rw [List.mem_filter]
  simp only [decide_eq_true_eq]
  constructor
  · rintro ⟨h, e⟩; refine ⟨?_, e⟩; simp at h; omega
  · rintro ⟨h, e⟩; refine ⟨?_, e⟩; simp; omega
noncomputable def playV : List S66 → St → Int × Int × Int × Int × Int × Int
  | [], s => (s.1, s.2.1, s.2.2.1, s.2.2.2.1, s.2.2.2.2, 0)
  | e :: es, s => if err (nx s e.f0 e.f1 e.f2) = 0 then playV es (stOf (nx s e.f0 e.f1 e.f2)) else (0, 0, 0, 0, 0, err (nx s e.f0 e.f1 e.f2))
theorem drop_cons66 (l : List S66) (i : Nat) (h : i < l.length) : l.drop i = rd_T66 l (i : Int) :: l.drop (i + 1) := by
  rw [List.drop_eq_getElem_cons h]; simp [rd_T66, List.getD_eq_getElem?_getD, h]
theorem play_l0 (l : List S66) (hn : l.length ≤ 1000) : ∀ (n i : Nat) (s : St), i + n = l.length → Ev (fun k => step_Play.l0 k l (l.length : Int) (i : Int) s.1 s.2.1 s.2.2.1 s.2.2.2.1 s.2.2.2.2) (playV (l.drop i) s) := by
  intro n
  induction n with
  | zero =>
    intro i s h
    apply Ev.step
    · intro k; rw [step_Play.l0]
    · rw [List.drop_of_length_le (by omega)]
      exact Ev.ite_neg (by omega) (Ev.now _)
  | succ n ih =>
    intro i s h
    rw [drop_cons66 l i (by omega), playV]
    apply Ev.step
    · intro k; rw [step_Play.l0]
    · refine Ev.ite_pos (by omega) (Ev.ite_pos (by omega) (Ev.ite_pos (by omega) (Ev.bind (snext_ok s _ _ _) ?_)))
      rw [show wrap64 ((i : Int) + 1) = ((i + 1 : Nat) : Int) by rw [w64 (by omega) (by omega)]; omega]
      by_cases c : err (nx s (rd_T66 l i).f0 (rd_T66 l i).f1 (rd_T66 l i).f2) = 0
      · refine Ev.res (if_pos c) (Ev.ite_pos c ?_)
        exact ih (i + 1) (stOf (nx s (rd_T66 l i).f0 (rd_T66 l i).f1 (rd_T66 l i).f2)) (by omega)
      · exact Ev.res (if_neg c) (Ev.ite_neg c (Ev.now _))
theorem play_ok (l : List S66) (hn : l.length ≤ 60) : Ev (fun k => step_Play.f k l) (playV l (0, 0, 0, 0, 0)) := by
  unfold step_Play.f
  refine Ev.ite_neg (by omega) ?_
  have e := play_l0 l (by omega) l.length 0 (0, 0, 0, 0, 0) (by omega)
  simpa using e
theorem err_put (n kind day : Int) (s : St) : err (putV n kind day s) = 0 := rfl
theorem led_file (d : Int) (h0 : 0 ≤ d) (h1 : d ≤ 1048575) : err (nx (0, 0, 0, 0, 0) 1 1 d) = 0 ∧ stOf (nx (0, 0, 0, 0, 0) 1 1 d) = (1, d, d, -1, 0) := by
  have e : nx (0, 0, 0, 0, 0) 1 1 d = (1, d, d, -1, 0, 0) := by
    unfold nx nextV
    rw [if_neg (by omega), if_neg (by decide), if_neg (by simp)]
    have : onV (mon 0 1) (0, 0, 0, 0, 0) d = (0, 0, 0, 0, 0) := by unfold onV; rw [if_neg (by simp)]
    simp only [this]
    simp [afterV, putV, baseV]
  rw [e]; exact ⟨rfl, rfl⟩
theorem indexI_ok (x : List Int) (v : Int) (hn : x.length ≤ 100) : ∀ (n i : Nat), i + n = x.length → ∃ r, Ev (fun k => slices_Index_int_int.l0 k x v (x.length : Int) (i : Int)) r ∧ (0 ≤ r ↔ v ∈ x.drop i) := by
  intro n
  induction n with
  | zero =>
    intro i h
    refine ⟨-1, ?_, ?_⟩
    · apply Ev.step
      · intro k; rw [slices_Index_int_int.l0]
      · exact Ev.ite_neg (by omega) (Ev.now _)
    · rw [List.drop_of_length_le (by omega)]; simp
  | succ n ih =>
    intro i h
    have hd : x.drop i = rd x (i : Int) :: x.drop (i + 1) := by
      rw [List.drop_eq_getElem_cons (by omega)]; congr 1; simp [rd, List.getD_eq_getElem?_getD]; rw [List.getElem?_eq_getElem (by omega)]; rfl
    rw [hd]
    by_cases c : v = rd x (i : Int)
    · refine ⟨(i : Int), ?_, ?_⟩
      · apply Ev.step
        · intro k; rw [slices_Index_int_int.l0]
        · exact Ev.ite_pos (by omega) (Ev.ite_pos (by omega) (Ev.ite_pos (by omega) (Ev.ite_pos c (Ev.now _))))
      · constructor
        · intro _; rw [← c]; exact List.mem_cons_self
        · intro _; omega
    · obtain ⟨r, h1, h2⟩ := ih (i + 1) (by omega)
      refine ⟨r, ?_, ?_⟩
      · apply Ev.step
        · intro k; rw [slices_Index_int_int.l0]
        · refine Ev.ite_pos (by omega) (Ev.ite_pos (by omega) (Ev.ite_pos (by omega) (Ev.ite_neg c ?_)))
          rw [show wrap64 ((i : Int) + 1) = ((i + 1 : Nat) : Int) by rw [w64 (by omega) (by omega)]; omega]
          exact h1
      · rw [h2]; simp [c]
theorem containsI_ok (x : List Int) (v : Int) (hn : x.length ≤ 100) : Ev (fun k => slices_Contains_int_int.f k x v) (decide (v ∈ x)) := by
  obtain ⟨r, h1, h2⟩ := indexI_ok x v hn x.length 0 (by omega)
  rw [List.drop_zero] at h2
  unfold slices_Contains_int_int.f slices_Index_int_int.f
  refine Ev.bind h1 (Ev.some_ ?_)
  rw [decide_eq_decide]
  exact h2
end Go.Proofs.Ytghnbiknghelpaa.Pure
