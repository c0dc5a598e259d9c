-- Printed by this session's wip/myprint.py.
import Derived.Test.YtghnbiknghelpaaPStpx0
import Derived.Test.YtghnbiknghelpaaPStpx6
import Derived.Test.YtghnbiknghelpaaPStpx8
namespace Go.Proofs.Ytghnbiknghelpaa.PStp
open Go.RowKit Go.Proofs.YtghnbiknghelpaaW.PrintWords Go.Proofs.YtghnbiknghelpaaW.PrintLast Go.Proofs.YtghnbiknghelpaaW.PrintMore
attribute [local go_sem] max2_int min2_int max_two min_two max_three min_three max_four min_four   -- for this text's walks alone
set_option linter.unusedVariables false
set_option linter.unusedSimpArgs false

/-! ### day_Size: function 59 -/
def day_Size.f (k : Nat) (a0 : Int) : Option (Int) := (day_Month.f k 1048575).bind fun t114 => ((day_ahead.f (wrap64 ((wrap64 ((mx 0 (mn a0 t114)) / 12)) + 1)) ((((mx 0 (mn a0 t114)) % 12) + 1) + 1)).bind fun t115 => ((day_ahead.f (wrap64 ((wrap64 ((mx 0 (mn a0 t114)) / 12)) + 1)) (((mx 0 (mn a0 t114)) % 12) + 1)).bind fun t116 => (some (wrap64 (t115 - t116)))))
theorem day_Size.mono : ∀ a0 k, LeO (day_Size.f k a0) (day_Size.f (k + 1) a0) := by
  intro a0 k
  unfold day_Size.f
  repeat' first
      | (with_reducible exact day_Month.mono _ _)
      | (with_reducible exact LeO.refl _)
      | (with_reducible exact LeO.none _)
      | (with_reducible refine LeO.ite ?_ ?_)
      | (with_reducible refine LeO.bind ?_ (fun _ => ?_))
      | exact day_Month.mono _ _
      | exact LeO.none _
      | refine LeO.ite ?_ ?_
      | refine LeO.bind ?_ (fun _ => ?_)
set_option maxHeartbeats 8000000 in
set_option maxRecDepth 100000 in
theorem day_Size.calls (k : Nat) (a0 : Int) (r : Int) (w : World) (h : day_Size.f k a0 = some r) :
    Calls Try.prog 59 #[.int .i64 a0] w fun e w' => e = .returned (.int .i64 r) ∧ Below w.heap.size w w' := by
  have HB := Aside0.mk (Below.refl w.heap.size w)
  have H : ((day_Month.f k 1048575).bind fun t114 => ((day_ahead.f (wrap64 ((wrap64 ((mx 0 (mn a0 t114)) / 12)) + 1)) ((((mx 0 (mn a0 t114)) % 12) + 1) + 1)).bind fun t115 => ((day_ahead.f (wrap64 ((wrap64 ((mx 0 (mn a0 t114)) / 12)) + 1)) (((mx 0 (mn a0 t114)) % 12) + 1)).bind fun t116 => (some (wrap64 (t115 - t116)))))) = some r := h
  clear h
  replace H := Option.bind_eq_some_iff.mp H
  obtain ⟨t114, A20, H⟩ := H
  replace H : ((day_ahead.f (wrap64 ((wrap64 ((mx 0 (mn a0 t114)) / 12)) + 1)) ((((mx 0 (mn a0 t114)) % 12) + 1) + 1)).bind fun t115 => ((day_ahead.f (wrap64 ((wrap64 ((mx 0 (mn a0 t114)) / 12)) + 1)) (((mx 0 (mn a0 t114)) % 12) + 1)).bind fun t116 => (some (wrap64 (t115 - t116))))) = some r := H
  have A2 := Aside0.mk A20
  clear A20
  obtain ⟨ji3, hji3⟩ : ∃ j_ : Int, (mn a0 t114) = j_ := ⟨_, rfl⟩
  replace H : ((day_ahead.f (wrap64 ((wrap64 ((mx 0 (ji3)) / 12)) + 1)) ((((mx 0 (ji3)) % 12) + 1) + 1)).bind fun t115 => ((day_ahead.f (wrap64 ((wrap64 ((mx 0 (ji3)) / 12)) + 1)) (((mx 0 (ji3)) % 12) + 1)).bind fun t116 => (some (wrap64 (t115 - t116))))) = some r := by first | (rw [hji3] at H; exact H) | (simp only [hji3] at H ⊢; exact H)
  (try rw [hji3] at A2)
  have hji3_ : (if t114 < a0 then t114 else a0) = ji3 := hji3
  obtain ⟨ji4, hji4⟩ : ∃ j_ : Int, (mx 0 (ji3)) = j_ := ⟨_, rfl⟩
  replace H : ((day_ahead.f (wrap64 ((wrap64 ((ji4) / 12)) + 1)) ((((ji4) % 12) + 1) + 1)).bind fun t115 => ((day_ahead.f (wrap64 ((wrap64 ((ji4) / 12)) + 1)) (((ji4) % 12) + 1)).bind fun t116 => (some (wrap64 (t115 - t116))))) = some r := by first | (rw [hji4] at H; exact H) | (simp only [hji4] at H ⊢; exact H)
  (try rw [hji4] at A2)
  (try (have hji4l : 0 ≤ ji4 := by (rw [← hji4]; unfold mx; (repeat' split) <;> omega)))
  (try (have hji4m : 0 ≤ ji4 := by omega))
  (try (have hji4t := fun y_ : Int => Int.tdiv_eq_ediv_of_nonneg (a := ji4) (b := y_) hji4m))
  (try (have hji4u := fun y_ : Int => Int.tmod_eq_emod_of_nonneg (a := ji4) y_ hji4m))
  have hji4_ : (if 0 < (ji3) then (ji3) else 0) = ji4 := hji4
  replace H := Option.bind_eq_some_iff.mp H
  obtain ⟨t115, A50, H⟩ := H
  replace H : ((day_ahead.f (wrap64 ((wrap64 ((ji4) / 12)) + 1)) (((ji4) % 12) + 1)).bind fun t116 => (some (wrap64 (t115 - t116)))) = some r := H
  have A5 := Aside0.mk A50
  clear A50
  replace H := Option.bind_eq_some_iff.mp H
  obtain ⟨t116, A60, H⟩ := H
  replace H : (some (wrap64 (t115 - t116))) = some r := H
  have A6 := Aside0.mk A60
  clear A60
  obtain rfl := Option.some.inj H
  go_enter Try.func59, Try.ntmps59
  go_wp2_with (first | ((with_reducible refine gate_callee (f := 57) rfl ?_); refine goesL_ (some 6) rfl rfl Try.func57 (by kernel_rfl) rfl #[.int .i64 1048575] rfl (by (try simp only [List.map_toArray, List.map_cons, List.map_nil]); first | done | rfl | (simp only [List.length_drop, List.length_take]; rfl)) ?_; (with_reducible refine (day_Month.calls k 1048575 t114 _ A2.out).mono ?_); rintro e w7 ⟨rfl, hb⟩; refine ⟨_, rfl, ?_⟩; have n0_ := Aside0.mk (below_step (by repeat (first | (with_reducible first | exact HB.out | apply below_alloc | apply pw_below_drewN | apply below_drew1) | exact HB.out)) hb); clear HB; have HB := n0_; clear n0_; (try clear hb); (try clear hb2); (try clear hk); (try clear hi)) | ((with_reducible refine gate_callee (f := 62) rfl ?_); refine goesL_ (some 18) rfl rfl Try.func62 (by kernel_rfl) rfl #[.int .i64 (wrap64 ((wrap64 ((ji4) / 12)) + 1)), .int .i64 ((((ji4) % 12) + 1) + 1)] rfl (by (try simp only [List.map_toArray, List.map_cons, List.map_nil]); first | done | (simp only [hji4]; rfl) | rfl | (simp only [List.length_drop, List.length_take]; rfl)) ?_; (with_reducible refine (day_ahead.calls (wrap64 ((wrap64 ((ji4) / 12)) + 1)) ((((ji4) % 12) + 1) + 1) t115 _ A5.out).mono ?_); rintro e w' ⟨rfl, ⟨nd, rfl⟩⟩; refine ⟨_, rfl, ?_⟩) | ((with_reducible refine gate_callee (f := 62) rfl ?_); refine goesL_ (some 21) rfl rfl Try.func62 (by kernel_rfl) rfl #[.int .i64 (wrap64 ((wrap64 ((ji4) / 12)) + 1)), .int .i64 (((ji4) % 12) + 1)] rfl (by (try simp only [List.map_toArray, List.map_cons, List.map_nil]); first | done | (simp only [hji4]; rfl) | rfl | (simp only [List.length_drop, List.length_take]; rfl)) ?_; (with_reducible refine (day_ahead.calls (wrap64 ((wrap64 ((ji4) / 12)) + 1)) (((ji4) % 12) + 1) t116 _ A6.out).mono ?_); rintro e w' ⟨rfl, ⟨nd, rfl⟩⟩; refine ⟨_, rfl, ?_⟩))
  go_ret
  exact ⟨by first | rfl | (simp [errW_none, errW_some] <;> rfl) | (simp only [← hji3, ← hji4]; first | rfl | (simp [errW_none, errW_some] <;> rfl)) | (simp [*, errW_none, errW_some] <;> rfl), by repeat (first | (with_reducible first | exact HB.out | apply below_alloc | apply pw_below_drewN | apply below_drew1) | exact HB.out)⟩

end Go.Proofs.Ytghnbiknghelpaa.PStp
