-- Printed by this session's wip/myprint.py.
import Derived.Test.YtenhnlclnjnboaaPPadx0
import Derived.Test.YtenhnlclnjnboaaPPadx6
namespace Go.Proofs.Ytenhnlclnjnboaa.PPad
open Go.RowKit Go.Proofs.YtenhnlclnjnboaaW.PrintWords Go.Proofs.YtenhnlclnjnboaaW.PrintLast Go.Proofs.YtenhnlclnjnboaaW.PrintMore
attribute [local go_sem] max2_int min2_int max_two min_two max_three min_three max_four min_four   -- for this text's walks alone
set_option linter.unusedVariables false
set_option linter.unusedSimpArgs false

/-! ### mootmake_Day: function 13 -/
def mootmake_Day.f (a0 : Int) : Option (Int) := (mootmake_Below.f a0 40000).bind fun t114 => (some (wrap64 (700000 + t114)))
set_option maxHeartbeats 8000000 in
set_option maxRecDepth 100000 in
theorem mootmake_Day.calls (a0 : Int) (r : Int) (w : World) (h : mootmake_Day.f a0 = some r) :
    Calls Try.prog 13 #[.int .i64 a0] w fun e w' => e = .returned (.int .i64 r) ∧ Drawn0 w w' := by
  have H : ((mootmake_Below.f a0 40000).bind fun t114 => (some (wrap64 (700000 + t114)))) = some r := h
  clear h
  replace H := Option.bind_eq_some_iff.mp H
  obtain ⟨t114, A20, H⟩ := H
  replace H : (some (wrap64 (700000 + t114))) = some r := H
  have A2 := Aside0.mk A20
  clear A20
  obtain rfl := Option.some.inj H
  go_enter Try.func13, Try.ntmps13
  go_wp2_with (first | ((with_reducible refine gate_callee (f := 15) rfl ?_); refine goesL_ (some 4) rfl rfl Try.func15 (by kernel_rfl) rfl #[.int .i64 a0, .int .i64 40000] rfl (by (try simp only [List.map_toArray, List.map_cons, List.map_nil]); first | done | rfl | (simp only [List.length_drop, List.length_take]; rfl)) ?_; (with_reducible refine (mootmake_Below.calls a0 40000 t114 _ A2.out).mono ?_); rintro e w' ⟨rfl, ⟨nd, rfl⟩⟩; refine ⟨_, rfl, ?_⟩))
  go_ret
  exact ⟨by first | rfl | (simp; done) | (simp [*]; done), by repeat (first | exact Drawn0.refl _ | apply Drawn0.step)⟩

end Go.Proofs.Ytenhnlclnjnboaa.PPad
