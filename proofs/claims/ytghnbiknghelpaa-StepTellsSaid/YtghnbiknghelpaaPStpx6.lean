-- Printed by this session's wip/myprint.py.
import Derived.Test.YtghnbiknghelpaaPStpx0
import Derived.Test.YtghnbiknghelpaaPStpx5
namespace Go.Proofs.Ytghnbiknghelpaa.PStp
open Go.RowKit Go.Proofs.YtghnbiknghelpaaW.PrintWords Go.Proofs.YtghnbiknghelpaaW.PrintLast Go.Proofs.YtghnbiknghelpaaW.PrintMore
attribute [local go_sem] max2_int min2_int max_two min_two max_three min_three max_four min_four   -- for this text's walks alone
set_option linter.unusedVariables false
set_option linter.unusedSimpArgs false

/-! ### day_ahead: function 62 -/
def day_ahead.f (a0 : Int) (a1 : Int) : Option (Int) := if a1 ≤ 2 then (some (wrap64 (Int.tdiv (wrap64 ((wrap64 (367 * a1)) - 362)) 12))) else ((day_Leap.f a0).bind fun t101 => (if t101 = true then (some (wrap64 ((wrap64 (Int.tdiv (wrap64 ((wrap64 (367 * a1)) - 362)) 12)) - 1))) else (some (wrap64 ((wrap64 (Int.tdiv (wrap64 ((wrap64 (367 * a1)) - 362)) 12)) - 2)))))
set_option maxHeartbeats 8000000 in
set_option maxRecDepth 100000 in
theorem day_ahead.calls (a0 : Int) (a1 : Int) (r : Int) (w : World) (h : day_ahead.f a0 a1 = some r) :
    Calls Try.prog 62 #[.int .i64 a0, .int .i64 a1] w fun e w' => e = .returned (.int .i64 r) ∧ Drawn0 w w' := by
  have H : (if a1 ≤ 2 then (some (wrap64 (Int.tdiv (wrap64 ((wrap64 (367 * a1)) - 362)) 12))) else ((day_Leap.f a0).bind fun t101 => (if t101 = true then (some (wrap64 ((wrap64 (Int.tdiv (wrap64 ((wrap64 (367 * a1)) - 362)) 12)) - 1))) else (some (wrap64 ((wrap64 (Int.tdiv (wrap64 ((wrap64 (367 * a1)) - 362)) 12)) - 2)))))) = some r := h
  clear h
  by_cases c3 : a1 ≤ 2
  · rw [if_pos c3] at H
    have c3b0 : decide (a1 ≤ 2) = true := decide_eq_true c3
    clear c3
    obtain rfl := Option.some.inj H
    go_enter Try.func62, Try.ntmps62
    go_wp2
    go_ret
    exact ⟨by first | rfl | (simp; done) | (simp [*]; done), by repeat (first | exact Drawn0.refl _ | apply Drawn0.step)⟩
  · rw [if_neg c3] at H
    have c3b0 : decide (a1 ≤ 2) = false := decide_eq_false c3
    clear c3
    replace H := Option.bind_eq_some_iff.mp H
    obtain ⟨t101, A40, H⟩ := H
    replace H : (if t101 = true then (some (wrap64 ((wrap64 (Int.tdiv (wrap64 ((wrap64 (367 * a1)) - 362)) 12)) - 1))) else (some (wrap64 ((wrap64 (Int.tdiv (wrap64 ((wrap64 (367 * a1)) - 362)) 12)) - 2)))) = some r := H
    have A4 := Aside0.mk A40
    clear A40
    by_cases c5 : t101 = true
    · subst c5
      have H1 : (some (wrap64 ((wrap64 (Int.tdiv (wrap64 ((wrap64 (367 * a1)) - 362)) 12)) - 1))) = some r := by rw [if_pos rfl] at H; exact H
      clear H
      have H := H1
      clear H1
      obtain rfl := Option.some.inj H
      go_enter Try.func62, Try.ntmps62
      go_wp2_with (first | ((with_reducible refine gate_callee (f := 63) rfl ?_); refine goesL_ (some 16) rfl rfl Try.func63 (by kernel_rfl) rfl #[.int .i64 a0] rfl (by (try simp only [List.map_toArray, List.map_cons, List.map_nil]); first | done | rfl | (simp only [List.length_drop, List.length_take]; rfl)) ?_; (with_reducible refine (day_Leap.calls a0 true _ A4.out).mono ?_); rintro e w' ⟨rfl, ⟨nd, rfl⟩⟩; refine ⟨_, rfl, ?_⟩))
      go_ret
      exact ⟨by first | rfl | (simp; done) | (simp [*]; done), by repeat (first | exact Drawn0.refl _ | apply Drawn0.step)⟩
    · replace c5 := Bool.eq_false_iff.mpr c5
      subst c5
      have H1 : (some (wrap64 ((wrap64 (Int.tdiv (wrap64 ((wrap64 (367 * a1)) - 362)) 12)) - 2))) = some r := by rw [if_neg (show ¬ (false = true) by decide)] at H; exact H
      clear H
      have H := H1
      clear H1
      obtain rfl := Option.some.inj H
      go_enter Try.func62, Try.ntmps62
      go_wp2_with (first | ((with_reducible refine gate_callee (f := 63) rfl ?_); refine goesL_ (some 16) rfl rfl Try.func63 (by kernel_rfl) rfl #[.int .i64 a0] rfl (by (try simp only [List.map_toArray, List.map_cons, List.map_nil]); first | done | rfl | (simp only [List.length_drop, List.length_take]; rfl)) ?_; (with_reducible refine (day_Leap.calls a0 false _ A4.out).mono ?_); rintro e w' ⟨rfl, ⟨nd, rfl⟩⟩; refine ⟨_, rfl, ?_⟩))
      go_ret
      exact ⟨by first | rfl | (simp; done) | (simp [*]; done), by repeat (first | exact Drawn0.refl _ | apply Drawn0.step)⟩

end Go.Proofs.Ytghnbiknghelpaa.PStp
