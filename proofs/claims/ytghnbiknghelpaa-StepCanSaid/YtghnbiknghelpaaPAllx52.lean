-- Printed by this session's wip/myprint.py.
import Derived.Test.YtghnbiknghelpaaPAllx0
import Derived.Test.YtghnbiknghelpaaPAllx1
import Derived.Test.YtghnbiknghelpaaPAllx9
import Derived.Test.YtghnbiknghelpaaPAllx38
import Derived.Test.YtghnbiknghelpaaPAllx41
import Derived.Test.YtghnbiknghelpaaPAllx42
import Derived.Test.YtghnbiknghelpaaPAllx43
import Derived.Test.YtghnbiknghelpaaPAllx44
import Derived.Test.YtghnbiknghelpaaPAllx46
import Derived.Test.YtghnbiknghelpaaPAllx51
namespace Go.Proofs.Ytghnbiknghelpaa.PAll
open Go.RowKit Go.Proofs.YtghnbiknghelpaaW.PrintWords Go.Proofs.YtghnbiknghelpaaW.PrintLast Go.Proofs.YtghnbiknghelpaaW.PrintMore
attribute [local go_sem] max2_int min2_int max_two min_two max_three min_three max_four min_four   -- for this text's walks alone
set_option linter.unusedVariables false
set_option linter.unusedSimpArgs false

attribute [local go_sem high] eqA62
/-! ### mootkeep4_StepCan: function 11 -/
def mootkeep4_StepCan.l0 : Nat → Int → Int → List Int → Int → Int → Int → Int → Int → Int → Option (Bool)
  | 0, _, _, _, _, _, _, _, _, _ => none
  | k + 1, x1, x9, x10, x37, x561000, x561001, x561002, x561003, x561004 => if x37 < 8 then ((step_Next.f k x561000 x561001 x561002 x561003 x561004 x37 x1 x9).bind fun bt577 => ((slices_Contains_int_int.f k x10 x37).bind fun t584 => (if ((bt577.2.2.2.2.2 == 0) != t584) = true then (some false) else (mootkeep4_StepCan.l0 k x1 x9 x10 (wrap64 (x37 + 1)) x561000 x561001 x561002 x561003 x561004)))) else ((step_On.f k x561000 x561001 x561002 x561003 x561004 x9).bind fun bt566 => ((step_On.f k bt566.1 bt566.2.1 bt566.2.2.1 bt566.2.2.2.1 bt566.2.2.2.2 x9).bind fun bt572 => (if (bt572.1 == bt566.1 && (bt572.2.1 == bt566.2.1 && (bt572.2.2.1 == bt566.2.2.1 && (bt572.2.2.2.1 == bt566.2.2.2.1 && (bt572.2.2.2.2 == bt566.2.2.2.2))))) = true then (if x561000 = 7 then (some ((x10.length : Int) == 0)) else (some true)) else (some false))))
def mootkeep4_StepCan.f (k : Nat) (l0 : List Int) (a1 : Int) (a2 : Int) : Option (Bool) := (mootkeep4_stepped.f k).bind fun t550 => (if t550 = true then ((mootkeep4_Procedure.f k l0).bind fun t551 => ((step_Play.f k t551).bind fun bt554 => (if bt554.2.2.2.2.2 = 0 then ((mootmake_Below.f a2 2000).bind fun t561 => ((mootmake_Below.f a1 2).bind fun t562 => ((step_Can.f k bt554.1 bt554.2.1 bt554.2.2.1 bt554.2.2.2.1 bt554.2.2.2.2.1 (wrap64 (1 + t562)) (wrap64 (bt554.2.1 + t561))).bind fun t563 => (mootkeep4_StepCan.l0 k (wrap64 (1 + t562)) (wrap64 (bt554.2.1 + t561)) t563 0 bt554.1 bt554.2.1 bt554.2.2.1 bt554.2.2.2.1 bt554.2.2.2.2.1)))) else (some false)))) else (some false))
theorem mootkeep4_StepCan.mono_l : ∀ k, (∀ y0 y1 y2 y3 y4 y5 y6 y7 y8, LeO (mootkeep4_StepCan.l0 k y0 y1 y2 y3 y4 y5 y6 y7 y8) (mootkeep4_StepCan.l0 (k + 1) y0 y1 y2 y3 y4 y5 y6 y7 y8))
  | 0 => fun _ _ _ _ _ _ _ _ _ r h => by simp [mootkeep4_StepCan.l0] at h
  | k + 1 => by
    have ih0 := mootkeep4_StepCan.mono_l k
    · intro y0 y1 y2 y3 y4 y5 y6 y7 y8
      unfold mootkeep4_StepCan.l0
      repeat' first
      | (with_reducible exact ih0 _ _ _ _ _ _ _ _ _)
      | (with_reducible exact mootkeep4_Procedure.mono _ _)
      | (with_reducible exact mootkeep4_stepped.mono _)
      | (with_reducible exact slices_Contains_int_int.mono _ _ _)
      | (with_reducible exact step_Can.mono _ _ _ _ _ _ _ _)
      | (with_reducible exact step_Next.mono _ _ _ _ _ _ _ _ _)
      | (with_reducible exact step_On.mono _ _ _ _ _ _ _)
      | (with_reducible exact step_Play.mono _ _)
      | (with_reducible exact LeO.refl _)
      | (with_reducible exact LeO.none _)
      | (with_reducible refine LeO.ite ?_ ?_)
      | (with_reducible refine LeO.bind ?_ (fun _ => ?_))
      | exact ih0 _ _ _ _ _ _ _ _ _
      | exact mootkeep4_Procedure.mono _ _
      | exact mootkeep4_stepped.mono _
      | exact slices_Contains_int_int.mono _ _ _
      | exact step_Can.mono _ _ _ _ _ _ _ _
      | exact step_Next.mono _ _ _ _ _ _ _ _ _
      | exact step_On.mono _ _ _ _ _ _ _
      | exact step_Play.mono _ _
      | exact LeO.none _
      | refine LeO.ite ?_ ?_
      | refine LeO.bind ?_ (fun _ => ?_)
theorem mootkeep4_StepCan.mono : ∀ a0 a1 a2 k, LeO (mootkeep4_StepCan.f k a0 a1 a2) (mootkeep4_StepCan.f (k + 1) a0 a1 a2) := by
  intro a0 a1 a2 k
  have ih0 := mootkeep4_StepCan.mono_l k
  unfold mootkeep4_StepCan.f
  repeat' first
      | (with_reducible exact ih0 _ _ _ _ _ _ _ _ _)
      | (with_reducible exact mootkeep4_Procedure.mono _ _)
      | (with_reducible exact mootkeep4_stepped.mono _)
      | (with_reducible exact slices_Contains_int_int.mono _ _ _)
      | (with_reducible exact step_Can.mono _ _ _ _ _ _ _ _)
      | (with_reducible exact step_Next.mono _ _ _ _ _ _ _ _ _)
      | (with_reducible exact step_On.mono _ _ _ _ _ _ _)
      | (with_reducible exact step_Play.mono _ _)
      | (with_reducible exact LeO.refl _)
      | (with_reducible exact LeO.none _)
      | (with_reducible refine LeO.ite ?_ ?_)
      | (with_reducible refine LeO.bind ?_ (fun _ => ?_))
      | exact ih0 _ _ _ _ _ _ _ _ _
      | exact mootkeep4_Procedure.mono _ _
      | exact mootkeep4_stepped.mono _
      | exact slices_Contains_int_int.mono _ _ _
      | exact step_Can.mono _ _ _ _ _ _ _ _
      | exact step_Next.mono _ _ _ _ _ _ _ _ _
      | exact step_On.mono _ _ _ _ _ _ _
      | exact step_Play.mono _ _
      | exact LeO.none _
      | refine LeO.ite ?_ ?_
      | refine LeO.bind ?_ (fun _ => ?_)
def mootkeep4_StepCan.T17 : Bool × List (List Nat × List Nat) := (true, [([], []), ([], []), ([0, 1], [0, 1]), ([], []), ([2, 3], [2, 3]), ([4, 2], [4]), ([5], [5]), ([6, 5], [5, 6]), ([7, 5], [5, 7]), ([8, 5, 5], [5, 8]), ([9], [9]), ([10, 9], [9, 10]), ([11, 9], [9, 11]), ([9, 12, 5], [5, 9, 12]), ([5, 13], [5, 13]), ([14, 9, 0, 1, 2, 3, 4, 5, 6, 7, 8, 9, 10, 11, 12, 13, 14], [14])])
def mootkeep4_StepCan.B17 : List Nat := [0, 0, 3, 0, 15, 31, 63, 127, 255, 511, 1023, 2047, 4095, 8191, 16383, 32767]
theorem mootkeep4_StepCan.tab17 : rtab .any (opsOf Try.f11 17) = mootkeep4_StepCan.T17 := by kernel_rfl
theorem mootkeep4_StepCan.bits17 : waitsOk mootkeep4_StepCan.T17.2 mootkeep4_StepCan.B17 = true := by kernel_rfl
set_option maxHeartbeats 8000000 in
set_option maxRecDepth 100000 in
theorem mootkeep4_StepCan.calls (k : Nat) (A0 : Option Addr) (c0 : Nat) (l0 : List Int) (a1 : Int) (a2 : Int) (r : Bool) (w : World) (hr0 : Kd.C (Kd.int .i64) w A0 l0.length l0) (hc0 : l0.length ≤ c0) (h : mootkeep4_StepCan.f k l0 a1 a2 = some r) :
    Calls Try.prog 11 #[.slice A0 l0.length c0, .int .i64 a1, .int .i64 a2] w fun e w' => e = .returned (.bool r) ∧ Below w.heap.size w w' := by
  have hu62 := Try.underlying62
  have hu66 := Try.underlying66
  have HR0 := Aside0.mk hr0
  have HC0 := Aside0.mk hc0
  clear hr0 hc0
  have HB := Aside0.mk (Below.refl w.heap.size w)
  have H : ((mootkeep4_stepped.f k).bind fun t550 => (if t550 = true then ((mootkeep4_Procedure.f k l0).bind fun t551 => ((step_Play.f k t551).bind fun bt554 => (if bt554.2.2.2.2.2 = 0 then ((mootmake_Below.f a2 2000).bind fun t561 => ((mootmake_Below.f a1 2).bind fun t562 => ((step_Can.f k bt554.1 bt554.2.1 bt554.2.2.1 bt554.2.2.2.1 bt554.2.2.2.2.1 (wrap64 (1 + t562)) (wrap64 (bt554.2.1 + t561))).bind fun t563 => (mootkeep4_StepCan.l0 k (wrap64 (1 + t562)) (wrap64 (bt554.2.1 + t561)) t563 0 bt554.1 bt554.2.1 bt554.2.2.1 bt554.2.2.2.1 bt554.2.2.2.2.1)))) else (some false)))) else (some false))) = some r := h
  clear h
  replace H := Option.bind_eq_some_iff.mp H
  obtain ⟨t550, A40, H⟩ := H
  replace H : (if t550 = true then ((mootkeep4_Procedure.f k l0).bind fun t551 => ((step_Play.f k t551).bind fun bt554 => (if bt554.2.2.2.2.2 = 0 then ((mootmake_Below.f a2 2000).bind fun t561 => ((mootmake_Below.f a1 2).bind fun t562 => ((step_Can.f k bt554.1 bt554.2.1 bt554.2.2.1 bt554.2.2.2.1 bt554.2.2.2.2.1 (wrap64 (1 + t562)) (wrap64 (bt554.2.1 + t561))).bind fun t563 => (mootkeep4_StepCan.l0 k (wrap64 (1 + t562)) (wrap64 (bt554.2.1 + t561)) t563 0 bt554.1 bt554.2.1 bt554.2.2.1 bt554.2.2.2.1 bt554.2.2.2.2.1)))) else (some false)))) else (some false)) = some r := H
  have A4 := Aside0.mk A40
  clear A40
  by_cases c5 : t550 = true
  · subst c5
    have H1 : ((mootkeep4_Procedure.f k l0).bind fun t551 => ((step_Play.f k t551).bind fun bt554 => (if bt554.2.2.2.2.2 = 0 then ((mootmake_Below.f a2 2000).bind fun t561 => ((mootmake_Below.f a1 2).bind fun t562 => ((step_Can.f k bt554.1 bt554.2.1 bt554.2.2.1 bt554.2.2.2.1 bt554.2.2.2.2.1 (wrap64 (1 + t562)) (wrap64 (bt554.2.1 + t561))).bind fun t563 => (mootkeep4_StepCan.l0 k (wrap64 (1 + t562)) (wrap64 (bt554.2.1 + t561)) t563 0 bt554.1 bt554.2.1 bt554.2.2.1 bt554.2.2.2.1 bt554.2.2.2.2.1)))) else (some false)))) = some r := by rw [if_pos rfl] at H; exact H
    clear H
    have H := H1
    clear H1
    replace H := Option.bind_eq_some_iff.mp H
    obtain ⟨t551, A60, H⟩ := H
    replace H : ((step_Play.f k t551).bind fun bt554 => (if bt554.2.2.2.2.2 = 0 then ((mootmake_Below.f a2 2000).bind fun t561 => ((mootmake_Below.f a1 2).bind fun t562 => ((step_Can.f k bt554.1 bt554.2.1 bt554.2.2.1 bt554.2.2.2.1 bt554.2.2.2.2.1 (wrap64 (1 + t562)) (wrap64 (bt554.2.1 + t561))).bind fun t563 => (mootkeep4_StepCan.l0 k (wrap64 (1 + t562)) (wrap64 (bt554.2.1 + t561)) t563 0 bt554.1 bt554.2.1 bt554.2.2.1 bt554.2.2.2.1 bt554.2.2.2.2.1)))) else (some false))) = some r := H
    have A6 := Aside0.mk A60
    clear A60
    replace H := Option.bind_eq_some_iff.mp H
    obtain ⟨⟨t554, t555, t556, t557, t558, t559⟩, A70, H⟩ := H
    replace H : (if t559 = 0 then ((mootmake_Below.f a2 2000).bind fun t561 => ((mootmake_Below.f a1 2).bind fun t562 => ((step_Can.f k t554 t555 t556 t557 t558 (wrap64 (1 + t562)) (wrap64 (t555 + t561))).bind fun t563 => (mootkeep4_StepCan.l0 k (wrap64 (1 + t562)) (wrap64 (t555 + t561)) t563 0 t554 t555 t556 t557 t558)))) else (some false)) = some r := H
    have A7 := Aside0.mk A70
    clear A70
    by_cases c8 : t559 = 0
    · rw [if_pos c8] at H
      have c8b0 : (t559 == 0) = true := beq_iff_eq.mpr c8
      have c8b1 : (t559 != 0) = false := bne_eq_false_iff_eq.mpr c8
      clear c8
      replace H := Option.bind_eq_some_iff.mp H
      obtain ⟨t561, A90, H⟩ := H
      replace H : ((mootmake_Below.f a1 2).bind fun t562 => ((step_Can.f k t554 t555 t556 t557 t558 (wrap64 (1 + t562)) (wrap64 (t555 + t561))).bind fun t563 => (mootkeep4_StepCan.l0 k (wrap64 (1 + t562)) (wrap64 (t555 + t561)) t563 0 t554 t555 t556 t557 t558))) = some r := H
      have A9 := Aside0.mk A90
      clear A90
      replace H := Option.bind_eq_some_iff.mp H
      obtain ⟨t562, A100, H⟩ := H
      replace H : ((step_Can.f k t554 t555 t556 t557 t558 (wrap64 (1 + t562)) (wrap64 (t555 + t561))).bind fun t563 => (mootkeep4_StepCan.l0 k (wrap64 (1 + t562)) (wrap64 (t555 + t561)) t563 0 t554 t555 t556 t557 t558)) = some r := H
      have A10 := Aside0.mk A100
      clear A100
      replace H := Option.bind_eq_some_iff.mp H
      obtain ⟨t563, A110, H⟩ := H
      replace H : (mootkeep4_StepCan.l0 k (wrap64 (1 + t562)) (wrap64 (t555 + t561)) t563 0 t554 t555 t556 t557 t558) = some r := H
      have A11 := Aside0.mk A110
      clear A110
      have H' := Aside0.mk H
      clear H
      go_enter Try.func11, Try.ntmps11
      try go_wp2_with (first | ((with_reducible refine gate_callee (f := 31) rfl ?_); refine goesL_ (some 15) rfl rfl Try.func31 (by kernel_rfl) rfl #[] rfl (by (try simp only [List.map_toArray, List.map_cons, List.map_nil]); first | done | rfl | (simp only [List.length_drop, List.length_take]; rfl)) ?_; (with_reducible refine (mootkeep4_stepped.calls k  true _ A4.out).mono ?_); rintro e w12 ⟨rfl, hb⟩; refine ⟨_, rfl, ?_⟩; have n0_ := Aside0.mk (below_step (by repeat (first | (with_reducible first | exact HB.out | apply below_alloc | apply pw_below_drewN | apply below_drew1) | exact HB.out)) hb); clear HB; have HB := n0_; clear n0_; (try clear hb); (try clear hb2); (try clear hk); (try clear hi)) | ((with_reducible refine gate_callee (f := 32) rfl ?_); refine goesL_ (some 19) rfl rfl Try.func32 (by kernel_rfl) rfl #[.slice A0 l0.length c0] rfl (by (try simp only [List.map_toArray, List.map_cons, List.map_nil]); first | done | rfl | (simp only [List.length_drop, List.length_take]; rfl)) ?_; (with_reducible refine (mootkeep4_Procedure.calls k _ _ l0 t551 _ ?side1 ?side2 A6.out).mono ?_); (case side1 => repeat (first | exact (Kd.C_below HR0.out HB.out) | (with_reducible refine Kd.C_alloc ?_ _) | (with_reducible refine Kd.C_drewN ?_ _) | (with_reducible refine Kd.C_drew ?_))); (case side2 => exact HC0.out); rintro e w13 ⟨v552, rfl, ho0, hb⟩; refine ⟨_, rfl, ?_⟩; have n0_ := Aside0.mk (Kd.R_lower ho0 (below_size (by repeat (first | (with_reducible first | exact HB.out | apply below_alloc | apply pw_below_drewN | apply below_drew1) | exact HB.out)))); have n1_ := Aside0.mk (below_step (by repeat (first | (with_reducible first | exact HB.out | apply below_alloc | apply pw_below_drewN | apply below_drew1) | exact HB.out)) hb); clear HB; have HO553 := n0_; have HB := n1_; clear n0_ n1_; (try clear hb); (try clear hb2); (try clear hk); (try clear hi); (try clear ho0); obtain ⟨Ao14, co14, eo14⟩ := Kd.R_slice HO553.out; subst eo14) | ((with_reducible refine gate_callee (f := 33) rfl ?_); refine goesL_ (some 20) rfl rfl Try.func33 (by kernel_rfl) rfl #[.slice Ao14 t551.length co14] rfl (by (try simp only [List.map_toArray, List.map_cons, List.map_nil]); first | done | rfl | (simp only [List.length_drop, List.length_take]; rfl)) ?_; (with_reducible refine (step_Play.calls k _ _ t551 t554 t555 t556 t557 t558 t559 _ ?side1 ?side2 A7.out).mono ?_); (case side1 => repeat (first | exact (Kd.R_reads' HO553.out).2.2 | (with_reducible refine Kd.C_alloc ?_ _) | (with_reducible refine Kd.C_drewN ?_ _) | (with_reducible refine Kd.C_drew ?_))); (case side2 => exact (Kd.R_reads' HO553.out).2.1); rintro e w15 ⟨rfl, hb⟩; refine ⟨_, rfl, ?_⟩; have n0_ := Aside0.mk (Kd.R_below (by (with_reducible repeat (first | apply Kd.R_alloc | apply Kd.R_drewN | apply Kd.R_drew)); exact HO553.out) hb); have n1_ := Aside0.mk (below_step (by repeat (first | (with_reducible first | exact HB.out | apply below_alloc | apply pw_below_drewN | apply below_drew1) | exact HB.out)) hb); clear HO553; clear HB; have HO553 := n0_; have HB := n1_; clear n0_ n1_; (try clear hb); (try clear hb2); (try clear hk); (try clear hi)) | ((with_reducible refine gate_dst (N := 7) rfl ?_); (try (refine gate_guard (by rfl) ?_; dsimp only)); refine box_event ?hg (N := 7) ?hd (cs := #[.int .i64 0, .int .i64 0, .int .i64 0, .int .i64 0, .int .i64 0]) (t := 62) ?hr ?_; (case hd => rfl); (case hg => rfl); (case hr => first | (go_simp; done) | (go_simp; rfl)); intro gb560 hg w16 hbox hb; have n0_ := Aside0.mk (Kd.R_below (by (with_reducible repeat (first | apply Kd.R_alloc | apply Kd.R_drewN | apply Kd.R_drew)); exact HO553.out) hb); have n1_ := Aside0.mk (below_step (by repeat (first | (with_reducible first | exact HB.out | apply below_alloc | apply pw_below_drewN | apply below_drew1) | exact HB.out)) hb); have n2_ := Aside0.mk (hbox); have n3_ := Aside0.mk ((by rw [hg]; exact (below_size (by repeat (first | (with_reducible first | exact HB.out | apply below_alloc | apply pw_below_drewN | apply below_drew1) | exact HB.out))) : w.heap.size ≤ gb560)); have n4_ := Aside0.mk ((by rw [hg]; exact (below_size (by repeat (first | (with_reducible first | exact HB.out | apply below_alloc | apply pw_below_drewN | apply below_drew1) | exact HB.out))) : w.heap.size ≤ gb560)); clear HO553; clear HB; have HO553 := n0_; have HB := n1_; have BK560 := n2_; have GW560 := n3_; have GE560 := n4_; clear n0_ n1_ n2_ n3_ n4_; clear hb hbox hg; have hcz17_0 : w16.cell? ⟨gb560, 0, none⟩ = some (.int .i64 0) := (blk_cell BK560.out 0).trans rfl; have hcz17_1 : w16.cell? ⟨gb560, 1, none⟩ = some (.int .i64 0) := (blk_cell BK560.out 1).trans rfl; have hcz17_2 : w16.cell? ⟨gb560, 2, none⟩ = some (.int .i64 0) := (blk_cell BK560.out 2).trans rfl; have hcz17_3 : w16.cell? ⟨gb560, 3, none⟩ = some (.int .i64 0) := (blk_cell BK560.out 3).trans rfl; have hcz17_4 : w16.cell? ⟨gb560, 4, none⟩ = some (.int .i64 0) := (blk_cell BK560.out 4).trans rfl; have hfz17_0 := blk_frozen BK560.out 0; have hfz17_1 := blk_frozen BK560.out 1; have hfz17_2 := blk_frozen BK560.out 2; have hfz17_3 := blk_frozen BK560.out 3; have hfz17_4 := blk_frozen BK560.out 4))
      have n0_ : Aside0 (Kd.R k66 66 (((((w16.setCell ⟨gb560, 0, none⟩ (.int .i64 t554)).setCell ⟨gb560, 1, none⟩ (.int .i64 t555)).setCell ⟨gb560, 2, none⟩ (.int .i64 t556)).setCell ⟨gb560, 3, none⟩ (.int .i64 t557)).setCell ⟨gb560, 4, none⟩ (.int .i64 t558)) w.heap.size (fun _ => True) (.slice Ao14 t551.length co14) t551) := ⟨by (with_reducible repeat (first | apply Kd.R_alloc | apply Kd.R_drewN | apply Kd.R_drew)); exact Kd.R_mono (Kd.R_far (p := ⟨gb560, 4, none⟩) (Kd.R_far (p := ⟨gb560, 3, none⟩) (Kd.R_far (p := ⟨gb560, 2, none⟩) (Kd.R_far (p := ⟨gb560, 1, none⟩) (Kd.R_far (p := ⟨gb560, 0, none⟩) (Kd.R_types HO553.out BK560.out (by decide)) (fun _ hk => hk.2) (.int .i64 t554)) (fun _ hk => hk.2) (.int .i64 t555)) (fun _ hk => hk.2) (.int .i64 t556)) (fun _ hk => hk.2) (.int .i64 t557)) (fun _ hk => hk.2) (.int .i64 t558)) (fun _ hk => trivial)⟩
      have n1_ : Aside0 ((((((w16.setCell ⟨gb560, 0, none⟩ (.int .i64 t554)).setCell ⟨gb560, 1, none⟩ (.int .i64 t555)).setCell ⟨gb560, 2, none⟩ (.int .i64 t556)).setCell ⟨gb560, 3, none⟩ (.int .i64 t557)).setCell ⟨gb560, 4, none⟩ (.int .i64 t558)).heap[gb560]? = some (.cells #[.int .i64 t554, .int .i64 t555, .int .i64 t556, .int .i64 t557, .int .i64 t558] 62 (0, 0))) := ⟨by (with_reducible repeat (first | refine blk_drewN ?_ _ | refine blk_drew ?_ | refine blk_alloc ?_ _)); refine blk_put (cs := #[.int .i64 t554, .int .i64 t555, .int .i64 t556, .int .i64 t557, .int .i64 0]) ?_ 4 _ rfl; (with_reducible repeat (first | refine blk_drewN ?_ _ | refine blk_drew ?_ | refine blk_alloc ?_ _)); refine blk_put (cs := #[.int .i64 t554, .int .i64 t555, .int .i64 t556, .int .i64 0, .int .i64 0]) ?_ 3 _ rfl; (with_reducible repeat (first | refine blk_drewN ?_ _ | refine blk_drew ?_ | refine blk_alloc ?_ _)); refine blk_put (cs := #[.int .i64 t554, .int .i64 t555, .int .i64 0, .int .i64 0, .int .i64 0]) ?_ 2 _ rfl; (with_reducible repeat (first | refine blk_drewN ?_ _ | refine blk_drew ?_ | refine blk_alloc ?_ _)); refine blk_put (cs := #[.int .i64 t554, .int .i64 0, .int .i64 0, .int .i64 0, .int .i64 0]) ?_ 1 _ rfl; (with_reducible repeat (first | refine blk_drewN ?_ _ | refine blk_drew ?_ | refine blk_alloc ?_ _)); refine blk_put (cs := #[.int .i64 0, .int .i64 0, .int .i64 0, .int .i64 0, .int .i64 0]) ?_ 0 _ rfl; (with_reducible repeat (first | refine blk_drewN ?_ _ | refine blk_drew ?_ | refine blk_alloc ?_ _)); exact BK560.out⟩
      have n2_ : Aside0 (Below w.heap.size w (((((w16.setCell ⟨gb560, 0, none⟩ (.int .i64 t554)).setCell ⟨gb560, 1, none⟩ (.int .i64 t555)).setCell ⟨gb560, 2, none⟩ (.int .i64 t556)).setCell ⟨gb560, 3, none⟩ (.int .i64 t557)).setCell ⟨gb560, 4, none⟩ (.int .i64 t558))) := ⟨by repeat (first | (with_reducible first | exact HB.out | apply below_alloc | apply pw_below_drewN | apply below_drew1 | refine below_set ?_ GE560.out) | exact HB.out)⟩
      (try clear HO553)
      (try clear BK560)
      (try clear HB)
      generalize (((((w16.setCell ⟨gb560, 0, none⟩ (.int .i64 t554)).setCell ⟨gb560, 1, none⟩ (.int .i64 t555)).setCell ⟨gb560, 2, none⟩ (.int .i64 t556)).setCell ⟨gb560, 3, none⟩ (.int .i64 t557)).setCell ⟨gb560, 4, none⟩ (.int .i64 t558)) = w18 at n0_ n1_ n2_ ⊢
      have HO553 := n0_
      have BK560 := n1_
      have HB := n2_
      clear n0_ n1_ n2_
      have n0_ := Aside0.mk (Kd.R_drew HO553.out)
      have n1_ := Aside0.mk (blk_drew BK560.out)
      have n2_ := Aside0.mk (below_drew1 HB.out)
      clear HO553
      clear BK560
      clear HB
      have HO553 := n0_
      have BK560 := n1_
      have HB := n2_
      clear n0_ n1_ n2_
      refine start_ (n := 6) (S := fun w' => w'.cell? ⟨gb560, 0, none⟩ = some (.int .i64 t554) ∧ w'.cell? ⟨gb560, 1, none⟩ = some (.int .i64 t555) ∧ w'.cell? ⟨gb560, 2, none⟩ = some (.int .i64 t556) ∧ w'.cell? ⟨gb560, 3, none⟩ = some (.int .i64 t557) ∧ w'.cell? ⟨gb560, 4, none⟩ = some (.int .i64 t558)) (ds := []) #[false, false, false, false, false, false] (by kernel_rfl) rfl rfl ⟨(blk_cell BK560.out 0).trans rfl, (blk_cell BK560.out 1).trans rfl, (blk_cell BK560.out 2).trans rfl, (blk_cell BK560.out 3).trans rfl, (blk_cell BK560.out 4).trans rfl⟩ (fun hHeld => ?_)
      generalize w18.drew = w19 at HO553 BK560 HB hHeld ⊢
      refine pure_ (i := 0) (N := some 25) (v := ?_) (a' := ?_) #[true, false, false, false, false, false] rfl rfl (by kernel_rfl) (fun _ _ _ h => h) (Or.inl ⟨by rfl, ?_⟩) ?_ ?_
      rotate_left
      · intro w'
        go_simp
        with_reducible rfl
      rotate_left
      · simp only [Act.put, List.setIfInBounds_toArray, List.set_cons_zero, List.set_cons_succ, i64_w, i32_w]
        rfl
      refine pure_ (i := 2) (N := some 27) (v := ?_) (a' := ?_) #[true, false, true, false, false, false] rfl rfl (by kernel_rfl) (fun _ _ _ h => h) (Or.inl ⟨by rfl, ?_⟩) ?_ ?_
      rotate_left
      · intro w'
        go_simp
        with_reducible rfl
      rotate_left
      · simp only [Act.put, List.setIfInBounds_toArray, List.set_cons_zero, List.set_cons_succ, i64_w, i32_w]
        rfl
      refine take_ (i := 1) (N := some 26) (v := ?_) (a' := ?_) #[true, true, true, false, false, false] rfl rfl (by kernel_rfl) (fun _ _ _ h => h) (Or.inl ⟨by rfl, ?_⟩) hHeld ?_ ?_
      rotate_left
      · rintro w' ⟨s0, s1, s2, s3, s4⟩
        go_simp
        with_reducible rfl
      rotate_left
      · simp only [Act.put, List.setIfInBounds_toArray, List.set_cons_zero, List.set_cons_succ, i64_w, i32_w]
        rfl
      refine one_ (i := 3) (N := some 28) #[true, true, true, true, false, false] rfl rfl (by kernel_rfl) (by decide) (fun K hK => ?_)
      refine goes_ Try.func16 (by kernel_rfl) rfl #[.int .i64 a2, .int .i64 2000] (by rfl) rfl rfl (by (try simp only [List.map_toArray, List.map_cons, List.map_nil]); first | done | rfl | (simp only [List.length_drop, List.length_take]; rfl)) ?_
      with_reducible refine (mootmake_Below.calls a2 2000 t561 _ A9.out).mono ?_
      rintro e w' ⟨rfl, ⟨nd, rfl⟩⟩
      refine ⟨_, rfl, ?_⟩
      refine hK.out _ _ ⟨(blk_cell BK560.out 0).trans rfl, (blk_cell BK560.out 1).trans rfl, (blk_cell BK560.out 2).trans rfl, (blk_cell BK560.out 3).trans rfl, (blk_cell BK560.out 4).trans rfl⟩ (fun hHeld => ?_)
      clear hK K
      refine norm_ (a' := ?_) ?_ ?_
      rotate_left
      · show Act.put _ (some 28) _ = _
        simp only [Act.put, List.setIfInBounds_toArray, List.set_cons_zero, List.set_cons_succ, i64_w, i32_w]
        rfl
      refine pure_ (i := 4) (N := some 29) (v := ?_) (a' := ?_) #[true, true, true, true, true, false] rfl rfl (by kernel_rfl) (fun _ _ _ h => h) (Or.inl ⟨by rfl, ?_⟩) ?_ ?_
      rotate_left
      · intro w'
        go_simp
        with_reducible rfl
      rotate_left
      · simp only [Act.put, List.setIfInBounds_toArray, List.set_cons_zero, List.set_cons_succ, i64_w, i32_w]
        rfl
      refine pure_ (i := 5) (N := some 9) (v := ?_) (a' := ?_) #[true, true, true, true, true, true] rfl rfl (by kernel_rfl) (fun _ _ _ h => h) (Or.inl ⟨by rfl, ?_⟩) ?_ ?_
      rotate_left
      · intro w'
        go_simp
        with_reducible rfl
      rotate_left
      · simp only [Act.put, List.setIfInBounds_toArray, List.set_cons_zero, List.set_cons_succ, i64_w, i32_w]
        rfl
      refine done_ (by kernel_rfl) ?_
      try go_wp2_with (first | ((with_reducible refine gate_callee (f := 16) rfl ?_); refine goesL_ (some 31) rfl rfl Try.func16 (by kernel_rfl) rfl #[.int .i64 a1, .int .i64 2] rfl (by (try simp only [List.map_toArray, List.map_cons, List.map_nil]); first | done | rfl | (simp only [List.length_drop, List.length_take]; rfl)) ?_; (with_reducible refine (mootmake_Below.calls a1 2 t562 _ A10.out).mono ?_); rintro e w' ⟨rfl, ⟨nd, rfl⟩⟩; refine ⟨_, rfl, ?_⟩; have hcz20_0 : w19.cell? ⟨gb560, 0, none⟩ = some (.int .i64 t554) := (blk_cell BK560.out 0).trans rfl; have hcz20_1 : w19.cell? ⟨gb560, 1, none⟩ = some (.int .i64 t555) := (blk_cell BK560.out 1).trans rfl; have hcz20_2 : w19.cell? ⟨gb560, 2, none⟩ = some (.int .i64 t556) := (blk_cell BK560.out 2).trans rfl; have hcz20_3 : w19.cell? ⟨gb560, 3, none⟩ = some (.int .i64 t557) := (blk_cell BK560.out 3).trans rfl; have hcz20_4 : w19.cell? ⟨gb560, 4, none⟩ = some (.int .i64 t558) := (blk_cell BK560.out 4).trans rfl; have hfz20_0 := blk_frozen BK560.out 0; have hfz20_1 := blk_frozen BK560.out 1; have hfz20_2 := blk_frozen BK560.out 2; have hfz20_3 := blk_frozen BK560.out 3; have hfz20_4 := blk_frozen BK560.out 4) | ((with_reducible refine gate_callee (f := 38) rfl ?_); refine goesL_ (some 36) rfl rfl Try.func38 (by kernel_rfl) rfl #[.agg #[.int .i64 t554, .int .i64 t555, .int .i64 t556, .int .i64 t557, .int .i64 t558], .int .i64 (wrap64 (1 + t562)), .int .i64 (wrap64 (t555 + t561))] rfl (by (try simp only [List.map_toArray, List.map_cons, List.map_nil]); first | done | rfl | (simp only [List.length_drop, List.length_take]; rfl)) ?_; (with_reducible refine (step_Can.calls k t554 t555 t556 t557 t558 (wrap64 (1 + t562)) (wrap64 (t555 + t561)) t563 _ A11.out).mono ?_); rintro e w21 ⟨v564, rfl, ho0, hb⟩; refine ⟨_, rfl, ?_⟩; have n0_ := Aside0.mk (Kd.R_below (by (with_reducible repeat (first | apply Kd.R_alloc | apply Kd.R_drewN | apply Kd.R_drew)); exact HO553.out) hb); have n1_ := Aside0.mk (Kd.R_lower ho0 (below_size (by repeat (first | (with_reducible first | exact HB.out | apply below_alloc | apply pw_below_drewN | apply below_drew1 | refine below_set ?_ GE560.out) | exact HB.out)))); have n2_ := Aside0.mk (blk_below (g := gb560) (o := .cells #[.int .i64 t554, .int .i64 t555, .int .i64 t556, .int .i64 t557, .int .i64 t558] 62 (0, 0)) (by (with_reducible repeat (first | refine blk_drewN ?_ _ | refine blk_drew ?_ | refine blk_alloc ?_ _)); exact BK560.out) hb); have n3_ := Aside0.mk (below_step (by repeat (first | (with_reducible first | exact HB.out | apply below_alloc | apply pw_below_drewN | apply below_drew1 | refine below_set ?_ GE560.out) | exact HB.out)) hb); clear HO553; clear BK560; clear HB; have HO553 := n0_; have HO565 := n1_; have BK560 := n2_; have HB := n3_; clear n0_ n1_ n2_ n3_; (try clear hb); (try clear hb2); (try clear hk); (try clear hi); (try clear ho0)))
      go_loopg [37] k (fun kq v37 w' => ∃ (x37_1 : Int), v37 = .int .i64 x37_1 ∧ Aside0 (mootkeep4_StepCan.l0 kq (wrap64 (1 + t562)) (wrap64 (t555 + t561)) t563 x37_1 t554 t555 t556 t557 t558 = some r) ∧ Aside0 (kq ≤ k) ∧ Aside0 (Kd.R (Kd.int .i64) 3 w' w.heap.size (fun _ => True) v564 t563) ∧ Aside0 (w'.heap[gb560]? = some (.cells #[.int .i64 t554, .int .i64 t555, .int .i64 t556, .int .i64 t557, .int .i64 t558] 62 (0, 0))) ∧ Aside0 (Below w.heap.size w w'))
      case atStart => exact ⟨(0), (by first | rfl | (simp; done) | (simp [*]; done)), H', ⟨Nat.le_refl _⟩, ⟨by (with_reducible repeat (first | apply Kd.R_alloc | apply Kd.R_drewN | apply Kd.R_drew)); exact HO565.out⟩, ⟨by (with_reducible repeat (first | refine blk_drewN ?_ _ | refine blk_drew ?_ | refine blk_alloc ?_ _)); exact BK560.out⟩, ⟨by repeat (first | (with_reducible first | exact HB.out | apply below_alloc | apply pw_below_drewN | apply below_drew1 | refine below_set ?_ GE560.out) | exact HB.out)⟩⟩
      case round =>
        clear H'
        try clear c1
        try clear p2
        try clear c3
        try clear p4
        try clear c5
        try clear p6
        try clear c8
        try clear c8b0
        try clear c8b1
        try clear c11
        try clear c16
        try clear hcz17_0
        try clear hcz17_1
        try clear hcz17_2
        try clear hcz17_3
        try clear hcz17_4
        try clear hcz20_0
        try clear hcz20_1
        try clear hcz20_2
        try clear hcz20_3
        try clear hcz20_4
        try clear hfz17_0
        try clear hfz17_1
        try clear hfz17_2
        try clear hfz17_3
        try clear hfz17_4
        try clear hfz20_0
        try clear hfz20_1
        try clear hfz20_2
        try clear hfz20_3
        try clear hfz20_4
        obtain ⟨x37_1, rfl, HA, HK1, HO_10, BK560, HB⟩ := hrel
        cases gk with
        | zero => exact absurd HA.out (by simp [mootkeep4_StepCan.l0])
        | succ k1 =>
          have H := HA.out
          clear HA
          simp only [mootkeep4_StepCan.l0] at H
          by_cases c22 : x37_1 < 8
          · rw [if_pos c22] at H
            have c22b0 : decide (x37_1 < 8) = true := decide_eq_true c22
            clear c22
            replace H := Option.bind_eq_some_iff.mp H
            obtain ⟨⟨t577, t578, t579, t580, t581, t582⟩, A230, H⟩ := H
            replace H : ((slices_Contains_int_int.f k1 t563 x37_1).bind fun t584 => (if ((t582 == 0) != t584) = true then (some false) else (mootkeep4_StepCan.l0 k1 (wrap64 (1 + t562)) (wrap64 (t555 + t561)) t563 (wrap64 (x37_1 + 1)) t554 t555 t556 t557 t558))) = some r := H
            have A23 := Aside0.mk A230
            clear A230
            replace H := Option.bind_eq_some_iff.mp H
            obtain ⟨t584, A240, H⟩ := H
            replace H : (if ((t582 == 0) != t584) = true then (some false) else (mootkeep4_StepCan.l0 k1 (wrap64 (1 + t562)) (wrap64 (t555 + t561)) t563 (wrap64 (x37_1 + 1)) t554 t555 t556 t557 t558)) = some r := H
            have A24 := Aside0.mk A240
            clear A240
            by_cases c25 : ((t582 == 0) != t584) = true
            · rw [if_pos c25] at H
              have c25b0 : ((t582 == 0) != t584) = true := c25
              (try (have c25b1 : decide ((t582 == 0) = t584) = false := by simpa using c25))
              (try (have c25b2 : ((t582 == 0) == t584) = false := by simpa using c25))
              (try (have c25b3 : ¬ ((t582 == 0) = t584) := by simpa using c25))
              clear c25
              obtain rfl := Option.some.inj H
              have hcz26_0 : wr.cell? ⟨gb560, 0, none⟩ = some (.int .i64 t554) := (blk_cell BK560.out 0).trans rfl
              have hcz26_1 : wr.cell? ⟨gb560, 1, none⟩ = some (.int .i64 t555) := (blk_cell BK560.out 1).trans rfl
              have hcz26_2 : wr.cell? ⟨gb560, 2, none⟩ = some (.int .i64 t556) := (blk_cell BK560.out 2).trans rfl
              have hcz26_3 : wr.cell? ⟨gb560, 3, none⟩ = some (.int .i64 t557) := (blk_cell BK560.out 3).trans rfl
              have hcz26_4 : wr.cell? ⟨gb560, 4, none⟩ = some (.int .i64 t558) := (blk_cell BK560.out 4).trans rfl
              have hfz26_0 := blk_frozen BK560.out 0
              have hfz26_1 := blk_frozen BK560.out 1
              have hfz26_2 := blk_frozen BK560.out 2
              have hfz26_3 := blk_frozen BK560.out 3
              have hfz26_4 := blk_frozen BK560.out 4
              go_wp2_with (first | ((with_reducible refine gate_callee (f := 34) rfl ?_); refine goesL_ (some 46) rfl rfl Try.func34 (by kernel_rfl) rfl #[.agg #[.int .i64 t554, .int .i64 t555, .int .i64 t556, .int .i64 t557, .int .i64 t558], .agg #[.int .i64 x37_1, .int .i64 (wrap64 (1 + t562)), .int .i64 (wrap64 (t555 + t561))]] rfl (by (try simp only [List.map_toArray, List.map_cons, List.map_nil]); first | done | rfl | (simp only [List.length_drop, List.length_take]; rfl)) ?_; (with_reducible refine (step_Next.calls k1 t554 t555 t556 t557 t558 x37_1 (wrap64 (1 + t562)) (wrap64 (t555 + t561)) t577 t578 t579 t580 t581 t582 _ A23.out).mono ?_); rintro e w27 ⟨rfl, hb⟩; refine ⟨_, rfl, ?_⟩; have n0_ := Aside0.mk (Kd.R_below (by (with_reducible repeat (first | apply Kd.R_alloc | apply Kd.R_drewN | apply Kd.R_drew)); exact HO_10.out) hb); have n1_ := Aside0.mk (blk_below (g := gb560) (o := .cells #[.int .i64 t554, .int .i64 t555, .int .i64 t556, .int .i64 t557, .int .i64 t558] 62 (0, 0)) (by (with_reducible repeat (first | refine blk_drewN ?_ _ | refine blk_drew ?_ | refine blk_alloc ?_ _)); exact BK560.out) hb); have n2_ := Aside0.mk (below_step (by repeat (first | (with_reducible first | exact HB.out | apply below_alloc | apply pw_below_drewN | apply below_drew1 | refine below_set ?_ GE560.out) | exact HB.out)) hb); clear HO_10; clear BK560; clear HB; have HO_10 := n0_; have BK560 := n1_; have HB := n2_; clear n0_ n1_ n2_; (try clear hb); (try clear hb2); (try clear hk); (try clear hi)) | ((with_reducible refine gate_dst (N := 12) rfl ?_); (try (refine gate_guard (by rfl) ?_; dsimp only)); refine box_event ?hg (N := 12) ?hd (cs := #[.int .i64 0, .int .i64 0, .int .i64 0, .int .i64 0, .int .i64 0]) (t := 62) ?hr ?_; (case hd => rfl); (case hg => rfl); (case hr => first | (go_simp; done) | (go_simp; rfl)); intro gb583 hg w28 hbox hb; have n0_ := Aside0.mk (Kd.R_below (by (with_reducible repeat (first | apply Kd.R_alloc | apply Kd.R_drewN | apply Kd.R_drew)); exact HO_10.out) hb); have n1_ := Aside0.mk (blk_below (g := gb560) (o := .cells #[.int .i64 t554, .int .i64 t555, .int .i64 t556, .int .i64 t557, .int .i64 t558] 62 (0, 0)) (by (with_reducible repeat (first | refine blk_drewN ?_ _ | refine blk_drew ?_ | refine blk_alloc ?_ _)); exact BK560.out) hb); have n2_ := Aside0.mk (below_step (by repeat (first | (with_reducible first | exact HB.out | apply below_alloc | apply pw_below_drewN | apply below_drew1 | refine below_set ?_ GE560.out) | exact HB.out)) hb); have n3_ := Aside0.mk (hbox); have n4_ := Aside0.mk ((by rw [hg]; exact (below_size (by repeat (first | (with_reducible first | exact HB.out | apply below_alloc | apply pw_below_drewN | apply below_drew1 | refine below_set ?_ GE560.out) | exact HB.out))) : w.heap.size ≤ gb583)); have n5_ := Aside0.mk ((by rw [hg]; exact (below_size (by repeat (first | (with_reducible first | exact HB.out | apply below_alloc | apply pw_below_drewN | apply below_drew1 | refine below_set ?_ GE560.out) | exact HB.out))) : w.heap.size ≤ gb583)); have n6_ := Aside0.mk ((by rw [hg]; exact Nat.ne_of_lt (blk_lt (g := gb560) (o := .cells #[.int .i64 t554, .int .i64 t555, .int .i64 t556, .int .i64 t557, .int .i64 t558] 62 (0, 0)) (by (with_reducible repeat (first | refine blk_drewN ?_ _ | refine blk_drew ?_ | refine blk_alloc ?_ _)); exact BK560.out)) : gb560 ≠ gb583)); have n7_ := Aside0.mk ((by rw [hg]; exact Nat.ne_of_gt (blk_lt (g := gb560) (o := .cells #[.int .i64 t554, .int .i64 t555, .int .i64 t556, .int .i64 t557, .int .i64 t558] 62 (0, 0)) (by (with_reducible repeat (first | refine blk_drewN ?_ _ | refine blk_drew ?_ | refine blk_alloc ?_ _)); exact BK560.out)) : gb583 ≠ gb560)); clear HO_10; clear BK560; clear HB; have HO_10 := n0_; have BK560 := n1_; have HB := n2_; have BK583 := n3_; have GW583 := n4_; have GE583 := n5_; have NB560_583 := n6_; have NB583_560 := n7_; clear n0_ n1_ n2_ n3_ n4_ n5_ n6_ n7_; clear hb hbox hg; have hnb29 := NB583_560.out; have hnc29 := NB560_583.out; have hcz30_0 : w28.cell? ⟨gb583, 0, none⟩ = some (.int .i64 0) := (blk_cell BK583.out 0).trans rfl; have hcz30_1 : w28.cell? ⟨gb583, 1, none⟩ = some (.int .i64 0) := (blk_cell BK583.out 1).trans rfl; have hcz30_2 : w28.cell? ⟨gb583, 2, none⟩ = some (.int .i64 0) := (blk_cell BK583.out 2).trans rfl; have hcz30_3 : w28.cell? ⟨gb583, 3, none⟩ = some (.int .i64 0) := (blk_cell BK583.out 3).trans rfl; have hcz30_4 : w28.cell? ⟨gb583, 4, none⟩ = some (.int .i64 0) := (blk_cell BK583.out 4).trans rfl; have hfz30_0 := blk_frozen BK583.out 0; have hfz30_1 := blk_frozen BK583.out 1; have hfz30_2 := blk_frozen BK583.out 2; have hfz30_3 := blk_frozen BK583.out 3; have hfz30_4 := blk_frozen BK583.out 4; obtain ⟨Ao31, co31, eo31⟩ := Kd.R_slice HO_10.out; subst eo31) | ((with_reducible refine gate_callee (f := 39) rfl ?_); refine goesL_ (some 53) rfl rfl Try.func39 (by kernel_rfl) rfl #[.slice Ao31 t563.length co31, .int .i64 x37_1] rfl (by (try simp only [List.map_toArray, List.map_cons, List.map_nil]); first | done | rfl | (simp only [List.length_drop, List.length_take]; rfl)) ?_; (with_reducible refine (slices_Contains_int_int.calls k1 _ _ t563 x37_1 t584 _ ?side1 ?side2 A24.out).mono ?_); (case side1 => refine (Kd.R_reads' (e := 3) (base := w.heap.size) (ok := fun k_ => True) (n := t563.length) (c := co31) ?_).2.2; exact (by (with_reducible repeat (first | apply Kd.R_alloc | apply Kd.R_drewN | apply Kd.R_drew)); exact (Kd.R_mono (Kd.R_far (p := ⟨gb583, 4, none⟩) (Kd.R_far (p := ⟨gb583, 3, none⟩) (Kd.R_far (p := ⟨gb583, 2, none⟩) (Kd.R_far (p := ⟨gb583, 1, none⟩) (Kd.R_far (p := ⟨gb583, 0, none⟩) (Kd.R_types HO_10.out BK583.out (by decide)) (fun _ hk => hk.2) (.int .i64 t577)) (fun _ hk => hk.2) (.int .i64 t578)) (fun _ hk => hk.2) (.int .i64 t579)) (fun _ hk => hk.2) (.int .i64 t580)) (fun _ hk => hk.2) (.int .i64 t581)) (fun _ h_ => h_.1)))); (case side2 => exact (Kd.R_reads' HO_10.out).2.1); rintro e w' ⟨rfl, ⟨nd, rfl⟩⟩; refine ⟨_, rfl, ?_⟩))
              go_ret
              exact ⟨by first | rfl | (simp [errW_none, errW_some] <;> rfl) | (simp [*, errW_none, errW_some] <;> rfl), by repeat (first | (with_reducible first | exact HB.out | apply below_alloc | apply pw_below_drewN | apply below_drew1 | refine below_set ?_ GE560.out | refine below_set ?_ GE583.out) | exact HB.out)⟩
            · rw [if_neg c25] at H
              have c25b0 : ((t582 == 0) != t584) = false := by simpa using c25
              (try (have c25b1 : decide ((t582 == 0) = t584) = true := by simpa using c25))
              (try (have c25b2 : ((t582 == 0) == t584) = true := by simpa using c25))
              clear c25
              have H' := Aside0.mk H
              clear H
              have hcz32_0 : wr.cell? ⟨gb560, 0, none⟩ = some (.int .i64 t554) := (blk_cell BK560.out 0).trans rfl
              have hcz32_1 : wr.cell? ⟨gb560, 1, none⟩ = some (.int .i64 t555) := (blk_cell BK560.out 1).trans rfl
              have hcz32_2 : wr.cell? ⟨gb560, 2, none⟩ = some (.int .i64 t556) := (blk_cell BK560.out 2).trans rfl
              have hcz32_3 : wr.cell? ⟨gb560, 3, none⟩ = some (.int .i64 t557) := (blk_cell BK560.out 3).trans rfl
              have hcz32_4 : wr.cell? ⟨gb560, 4, none⟩ = some (.int .i64 t558) := (blk_cell BK560.out 4).trans rfl
              have hfz32_0 := blk_frozen BK560.out 0
              have hfz32_1 := blk_frozen BK560.out 1
              have hfz32_2 := blk_frozen BK560.out 2
              have hfz32_3 := blk_frozen BK560.out 3
              have hfz32_4 := blk_frozen BK560.out 4
              go_wp2_with (first | ((with_reducible refine gate_callee (f := 34) rfl ?_); refine goesL_ (some 46) rfl rfl Try.func34 (by kernel_rfl) rfl #[.agg #[.int .i64 t554, .int .i64 t555, .int .i64 t556, .int .i64 t557, .int .i64 t558], .agg #[.int .i64 x37_1, .int .i64 (wrap64 (1 + t562)), .int .i64 (wrap64 (t555 + t561))]] rfl (by (try simp only [List.map_toArray, List.map_cons, List.map_nil]); first | done | rfl | (simp only [List.length_drop, List.length_take]; rfl)) ?_; (with_reducible refine (step_Next.calls k1 t554 t555 t556 t557 t558 x37_1 (wrap64 (1 + t562)) (wrap64 (t555 + t561)) t577 t578 t579 t580 t581 t582 _ A23.out).mono ?_); rintro e w33 ⟨rfl, hb⟩; refine ⟨_, rfl, ?_⟩; have n0_ := Aside0.mk (Kd.R_below (by (with_reducible repeat (first | apply Kd.R_alloc | apply Kd.R_drewN | apply Kd.R_drew)); exact HO_10.out) hb); have n1_ := Aside0.mk (blk_below (g := gb560) (o := .cells #[.int .i64 t554, .int .i64 t555, .int .i64 t556, .int .i64 t557, .int .i64 t558] 62 (0, 0)) (by (with_reducible repeat (first | refine blk_drewN ?_ _ | refine blk_drew ?_ | refine blk_alloc ?_ _)); exact BK560.out) hb); have n2_ := Aside0.mk (below_step (by repeat (first | (with_reducible first | exact HB.out | apply below_alloc | apply pw_below_drewN | apply below_drew1 | refine below_set ?_ GE560.out) | exact HB.out)) hb); clear HO_10; clear BK560; clear HB; have HO_10 := n0_; have BK560 := n1_; have HB := n2_; clear n0_ n1_ n2_; (try clear hb); (try clear hb2); (try clear hk); (try clear hi)) | ((with_reducible refine gate_dst (N := 12) rfl ?_); (try (refine gate_guard (by rfl) ?_; dsimp only)); refine box_event ?hg (N := 12) ?hd (cs := #[.int .i64 0, .int .i64 0, .int .i64 0, .int .i64 0, .int .i64 0]) (t := 62) ?hr ?_; (case hd => rfl); (case hg => rfl); (case hr => first | (go_simp; done) | (go_simp; rfl)); intro gb583 hg w34 hbox hb; have n0_ := Aside0.mk (Kd.R_below (by (with_reducible repeat (first | apply Kd.R_alloc | apply Kd.R_drewN | apply Kd.R_drew)); exact HO_10.out) hb); have n1_ := Aside0.mk (blk_below (g := gb560) (o := .cells #[.int .i64 t554, .int .i64 t555, .int .i64 t556, .int .i64 t557, .int .i64 t558] 62 (0, 0)) (by (with_reducible repeat (first | refine blk_drewN ?_ _ | refine blk_drew ?_ | refine blk_alloc ?_ _)); exact BK560.out) hb); have n2_ := Aside0.mk (below_step (by repeat (first | (with_reducible first | exact HB.out | apply below_alloc | apply pw_below_drewN | apply below_drew1 | refine below_set ?_ GE560.out) | exact HB.out)) hb); have n3_ := Aside0.mk (hbox); have n4_ := Aside0.mk ((by rw [hg]; exact (below_size (by repeat (first | (with_reducible first | exact HB.out | apply below_alloc | apply pw_below_drewN | apply below_drew1 | refine below_set ?_ GE560.out) | exact HB.out))) : w.heap.size ≤ gb583)); have n5_ := Aside0.mk ((by rw [hg]; exact (below_size (by repeat (first | (with_reducible first | exact HB.out | apply below_alloc | apply pw_below_drewN | apply below_drew1 | refine below_set ?_ GE560.out) | exact HB.out))) : w.heap.size ≤ gb583)); have n6_ := Aside0.mk ((by rw [hg]; exact Nat.ne_of_lt (blk_lt (g := gb560) (o := .cells #[.int .i64 t554, .int .i64 t555, .int .i64 t556, .int .i64 t557, .int .i64 t558] 62 (0, 0)) (by (with_reducible repeat (first | refine blk_drewN ?_ _ | refine blk_drew ?_ | refine blk_alloc ?_ _)); exact BK560.out)) : gb560 ≠ gb583)); have n7_ := Aside0.mk ((by rw [hg]; exact Nat.ne_of_gt (blk_lt (g := gb560) (o := .cells #[.int .i64 t554, .int .i64 t555, .int .i64 t556, .int .i64 t557, .int .i64 t558] 62 (0, 0)) (by (with_reducible repeat (first | refine blk_drewN ?_ _ | refine blk_drew ?_ | refine blk_alloc ?_ _)); exact BK560.out)) : gb583 ≠ gb560)); clear HO_10; clear BK560; clear HB; have HO_10 := n0_; have BK560 := n1_; have HB := n2_; have BK583 := n3_; have GW583 := n4_; have GE583 := n5_; have NB560_583 := n6_; have NB583_560 := n7_; clear n0_ n1_ n2_ n3_ n4_ n5_ n6_ n7_; clear hb hbox hg; have hnb35 := NB583_560.out; have hnc35 := NB560_583.out; have hcz36_0 : w34.cell? ⟨gb583, 0, none⟩ = some (.int .i64 0) := (blk_cell BK583.out 0).trans rfl; have hcz36_1 : w34.cell? ⟨gb583, 1, none⟩ = some (.int .i64 0) := (blk_cell BK583.out 1).trans rfl; have hcz36_2 : w34.cell? ⟨gb583, 2, none⟩ = some (.int .i64 0) := (blk_cell BK583.out 2).trans rfl; have hcz36_3 : w34.cell? ⟨gb583, 3, none⟩ = some (.int .i64 0) := (blk_cell BK583.out 3).trans rfl; have hcz36_4 : w34.cell? ⟨gb583, 4, none⟩ = some (.int .i64 0) := (blk_cell BK583.out 4).trans rfl; have hfz36_0 := blk_frozen BK583.out 0; have hfz36_1 := blk_frozen BK583.out 1; have hfz36_2 := blk_frozen BK583.out 2; have hfz36_3 := blk_frozen BK583.out 3; have hfz36_4 := blk_frozen BK583.out 4; obtain ⟨Ao37, co37, eo37⟩ := Kd.R_slice HO_10.out; subst eo37) | ((with_reducible refine gate_callee (f := 39) rfl ?_); refine goesL_ (some 53) rfl rfl Try.func39 (by kernel_rfl) rfl #[.slice Ao37 t563.length co37, .int .i64 x37_1] rfl (by (try simp only [List.map_toArray, List.map_cons, List.map_nil]); first | done | rfl | (simp only [List.length_drop, List.length_take]; rfl)) ?_; (with_reducible refine (slices_Contains_int_int.calls k1 _ _ t563 x37_1 t584 _ ?side1 ?side2 A24.out).mono ?_); (case side1 => refine (Kd.R_reads' (e := 3) (base := w.heap.size) (ok := fun k_ => True) (n := t563.length) (c := co37) ?_).2.2; exact (by (with_reducible repeat (first | apply Kd.R_alloc | apply Kd.R_drewN | apply Kd.R_drew)); exact (Kd.R_mono (Kd.R_far (p := ⟨gb583, 4, none⟩) (Kd.R_far (p := ⟨gb583, 3, none⟩) (Kd.R_far (p := ⟨gb583, 2, none⟩) (Kd.R_far (p := ⟨gb583, 1, none⟩) (Kd.R_far (p := ⟨gb583, 0, none⟩) (Kd.R_types HO_10.out BK583.out (by decide)) (fun _ hk => hk.2) (.int .i64 t577)) (fun _ hk => hk.2) (.int .i64 t578)) (fun _ hk => hk.2) (.int .i64 t579)) (fun _ hk => hk.2) (.int .i64 t580)) (fun _ hk => hk.2) (.int .i64 t581)) (fun _ h_ => h_.1)))); (case side2 => exact (Kd.R_reads' HO_10.out).2.1); rintro e w' ⟨rfl, ⟨nd, rfl⟩⟩; refine ⟨_, rfl, ?_⟩))
              go_roundg k1
              case measure => have := HK1.out; omega
              case rel => exact ⟨(wrap64 (x37_1 + 1)), (by first | rfl | (simp; done) | (simp [*]; done)), H', ⟨by have := HK1.out; omega⟩, ⟨by (with_reducible repeat (first | apply Kd.R_alloc | apply Kd.R_drewN | apply Kd.R_drew)); exact Kd.R_mono (Kd.R_far (p := ⟨gb583, 4, none⟩) (Kd.R_far (p := ⟨gb583, 3, none⟩) (Kd.R_far (p := ⟨gb583, 2, none⟩) (Kd.R_far (p := ⟨gb583, 1, none⟩) (Kd.R_far (p := ⟨gb583, 0, none⟩) (Kd.R_types HO_10.out BK583.out (by decide)) (fun _ hk => hk.2) (.int .i64 t577)) (fun _ hk => hk.2) (.int .i64 t578)) (fun _ hk => hk.2) (.int .i64 t579)) (fun _ hk => hk.2) (.int .i64 t580)) (fun _ hk => hk.2) (.int .i64 t581)) (fun _ hk => trivial)⟩, ⟨by (with_reducible repeat (first | refine blk_drewN ?_ _ | refine blk_drew ?_ | refine blk_alloc ?_ _)); refine blk_far ?_ NB560_583.out _; (with_reducible repeat (first | refine blk_drewN ?_ _ | refine blk_drew ?_ | refine blk_alloc ?_ _)); refine blk_far ?_ NB560_583.out _; (with_reducible repeat (first | refine blk_drewN ?_ _ | refine blk_drew ?_ | refine blk_alloc ?_ _)); refine blk_far ?_ NB560_583.out _; (with_reducible repeat (first | refine blk_drewN ?_ _ | refine blk_drew ?_ | refine blk_alloc ?_ _)); refine blk_far ?_ NB560_583.out _; (with_reducible repeat (first | refine blk_drewN ?_ _ | refine blk_drew ?_ | refine blk_alloc ?_ _)); refine blk_far ?_ NB560_583.out _; (with_reducible repeat (first | refine blk_drewN ?_ _ | refine blk_drew ?_ | refine blk_alloc ?_ _)); exact BK560.out⟩, ⟨by repeat (first | (with_reducible first | exact HB.out | apply below_alloc | apply pw_below_drewN | apply below_drew1 | refine below_set ?_ GE560.out | refine below_set ?_ GE583.out) | exact HB.out)⟩⟩
          · rw [if_neg c22] at H
            have c22b0 : decide (x37_1 < 8) = false := decide_eq_false c22
            clear c22
            replace H := Option.bind_eq_some_iff.mp H
            obtain ⟨⟨t566, t567, t568, t569, t570⟩, A380, H⟩ := H
            replace H : ((step_On.f k1 t566 t567 t568 t569 t570 (wrap64 (t555 + t561))).bind fun bt572 => (if (bt572.1 == t566 && (bt572.2.1 == t567 && (bt572.2.2.1 == t568 && (bt572.2.2.2.1 == t569 && (bt572.2.2.2.2 == t570))))) = true then (if t554 = 7 then (some ((t563.length : Int) == 0)) else (some true)) else (some false))) = some r := H
            have A38 := Aside0.mk A380
            clear A380
            replace H := Option.bind_eq_some_iff.mp H
            obtain ⟨⟨t572, t573, t574, t575, t576⟩, A390, H⟩ := H
            replace H : (if (t572 == t566 && (t573 == t567 && (t574 == t568 && (t575 == t569 && (t576 == t570))))) = true then (if t554 = 7 then (some ((t563.length : Int) == 0)) else (some true)) else (some false)) = some r := H
            have A39 := Aside0.mk A390
            clear A390
            by_cases c40 : (t572 == t566 && (t573 == t567 && (t574 == t568 && (t575 == t569 && (t576 == t570))))) = true
            · rw [if_pos c40] at H
              have c40b0 : (t572 == t566 && (t573 == t567 && (t574 == t568 && (t575 == t569 && (t576 == t570))))) = true := c40
              (try (have c40b1 : decide (t572 = t566 && (t573 == t567 && (t574 == t568 && (t575 == t569 && (t576 == t570))))) = true := by simpa using c40))
              (try (have c40b2 : (t572 == t566 && (t573 == t567 && (t574 == t568 && (t575 == t569 && (t576 == t570))))) = true := by simpa using c40))
              clear c40
              by_cases c41 : t554 = 7
              · rw [if_pos c41] at H
                have c41b0 : (t554 == 7) = true := beq_iff_eq.mpr c41
                have c41b1 : (t554 != 7) = false := bne_eq_false_iff_eq.mpr c41
                clear c41
                obtain rfl := Option.some.inj H
                have hcz42_0 : wr.cell? ⟨gb560, 0, none⟩ = some (.int .i64 t554) := (blk_cell BK560.out 0).trans rfl
                have hcz42_1 : wr.cell? ⟨gb560, 1, none⟩ = some (.int .i64 t555) := (blk_cell BK560.out 1).trans rfl
                have hcz42_2 : wr.cell? ⟨gb560, 2, none⟩ = some (.int .i64 t556) := (blk_cell BK560.out 2).trans rfl
                have hcz42_3 : wr.cell? ⟨gb560, 3, none⟩ = some (.int .i64 t557) := (blk_cell BK560.out 3).trans rfl
                have hcz42_4 : wr.cell? ⟨gb560, 4, none⟩ = some (.int .i64 t558) := (blk_cell BK560.out 4).trans rfl
                have hfz42_0 := blk_frozen BK560.out 0
                have hfz42_1 := blk_frozen BK560.out 1
                have hfz42_2 := blk_frozen BK560.out 2
                have hfz42_3 := blk_frozen BK560.out 3
                have hfz42_4 := blk_frozen BK560.out 4
                try go_wp2_with (first | ((with_reducible refine gate_callee (f := 36) rfl ?_); refine goesL_ (some 58) rfl rfl Try.func36 (by kernel_rfl) rfl #[.agg #[.int .i64 t554, .int .i64 t555, .int .i64 t556, .int .i64 t557, .int .i64 t558], .int .i64 (wrap64 (t555 + t561))] rfl (by (try simp only [List.map_toArray, List.map_cons, List.map_nil]); first | done | rfl | (simp only [List.length_drop, List.length_take]; rfl)) ?_; (with_reducible refine (step_On.calls k1 t554 t555 t556 t557 t558 (wrap64 (t555 + t561)) t566 t567 t568 t569 t570 _ A38.out).mono ?_); rintro e w43 ⟨rfl, hb⟩; refine ⟨_, rfl, ?_⟩; have n0_ := Aside0.mk (Kd.R_below (by (with_reducible repeat (first | apply Kd.R_alloc | apply Kd.R_drewN | apply Kd.R_drew)); exact HO_10.out) hb); have n1_ := Aside0.mk (blk_below (g := gb560) (o := .cells #[.int .i64 t554, .int .i64 t555, .int .i64 t556, .int .i64 t557, .int .i64 t558] 62 (0, 0)) (by (with_reducible repeat (first | refine blk_drewN ?_ _ | refine blk_drew ?_ | refine blk_alloc ?_ _)); exact BK560.out) hb); have n2_ := Aside0.mk (below_step (by repeat (first | (with_reducible first | exact HB.out | apply below_alloc | apply pw_below_drewN | apply below_drew1 | refine below_set ?_ GE560.out) | exact HB.out)) hb); clear HO_10; clear BK560; clear HB; have HO_10 := n0_; have BK560 := n1_; have HB := n2_; clear n0_ n1_ n2_; (try clear hb); (try clear hb2); (try clear hk); (try clear hi)) | ((with_reducible refine gate_dst (N := 14) rfl ?_); (try (refine gate_guard (by rfl) ?_; dsimp only)); refine box_event ?hg (N := 14) ?hd (cs := #[.int .i64 0, .int .i64 0, .int .i64 0, .int .i64 0, .int .i64 0]) (t := 62) ?hr ?_; (case hd => rfl); (case hg => rfl); (case hr => first | (go_simp; done) | (go_simp; rfl)); intro gb571 hg w44 hbox hb; have n0_ := Aside0.mk (Kd.R_below (by (with_reducible repeat (first | apply Kd.R_alloc | apply Kd.R_drewN | apply Kd.R_drew)); exact HO_10.out) hb); have n1_ := Aside0.mk (blk_below (g := gb560) (o := .cells #[.int .i64 t554, .int .i64 t555, .int .i64 t556, .int .i64 t557, .int .i64 t558] 62 (0, 0)) (by (with_reducible repeat (first | refine blk_drewN ?_ _ | refine blk_drew ?_ | refine blk_alloc ?_ _)); exact BK560.out) hb); have n2_ := Aside0.mk (below_step (by repeat (first | (with_reducible first | exact HB.out | apply below_alloc | apply pw_below_drewN | apply below_drew1 | refine below_set ?_ GE560.out) | exact HB.out)) hb); have n3_ := Aside0.mk (hbox); have n4_ := Aside0.mk ((by rw [hg]; exact (below_size (by repeat (first | (with_reducible first | exact HB.out | apply below_alloc | apply pw_below_drewN | apply below_drew1 | refine below_set ?_ GE560.out) | exact HB.out))) : w.heap.size ≤ gb571)); have n5_ := Aside0.mk ((by rw [hg]; exact (below_size (by repeat (first | (with_reducible first | exact HB.out | apply below_alloc | apply pw_below_drewN | apply below_drew1 | refine below_set ?_ GE560.out) | exact HB.out))) : w.heap.size ≤ gb571)); have n6_ := Aside0.mk ((by rw [hg]; exact Nat.ne_of_lt (blk_lt (g := gb560) (o := .cells #[.int .i64 t554, .int .i64 t555, .int .i64 t556, .int .i64 t557, .int .i64 t558] 62 (0, 0)) (by (with_reducible repeat (first | refine blk_drewN ?_ _ | refine blk_drew ?_ | refine blk_alloc ?_ _)); exact BK560.out)) : gb560 ≠ gb571)); have n7_ := Aside0.mk ((by rw [hg]; exact Nat.ne_of_gt (blk_lt (g := gb560) (o := .cells #[.int .i64 t554, .int .i64 t555, .int .i64 t556, .int .i64 t557, .int .i64 t558] 62 (0, 0)) (by (with_reducible repeat (first | refine blk_drewN ?_ _ | refine blk_drew ?_ | refine blk_alloc ?_ _)); exact BK560.out)) : gb571 ≠ gb560)); clear HO_10; clear BK560; clear HB; have HO_10 := n0_; have BK560 := n1_; have HB := n2_; have BK571 := n3_; have GW571 := n4_; have GE571 := n5_; have NB560_571 := n6_; have NB571_560 := n7_; clear n0_ n1_ n2_ n3_ n4_ n5_ n6_ n7_; clear hb hbox hg; have hnb45 := NB571_560.out; have hnc45 := NB560_571.out; have hcz46_0 : w44.cell? ⟨gb571, 0, none⟩ = some (.int .i64 0) := (blk_cell BK571.out 0).trans rfl; have hcz46_1 : w44.cell? ⟨gb571, 1, none⟩ = some (.int .i64 0) := (blk_cell BK571.out 1).trans rfl; have hcz46_2 : w44.cell? ⟨gb571, 2, none⟩ = some (.int .i64 0) := (blk_cell BK571.out 2).trans rfl; have hcz46_3 : w44.cell? ⟨gb571, 3, none⟩ = some (.int .i64 0) := (blk_cell BK571.out 3).trans rfl; have hcz46_4 : w44.cell? ⟨gb571, 4, none⟩ = some (.int .i64 0) := (blk_cell BK571.out 4).trans rfl; have hfz46_0 := blk_frozen BK571.out 0; have hfz46_1 := blk_frozen BK571.out 1; have hfz46_2 := blk_frozen BK571.out 2; have hfz46_3 := blk_frozen BK571.out 3; have hfz46_4 := blk_frozen BK571.out 4))
                have n0_ : Aside0 (Kd.R (Kd.int .i64) 3 (((((w44.setCell ⟨gb571, 0, none⟩ (.int .i64 t566)).setCell ⟨gb571, 1, none⟩ (.int .i64 t567)).setCell ⟨gb571, 2, none⟩ (.int .i64 t568)).setCell ⟨gb571, 3, none⟩ (.int .i64 t569)).setCell ⟨gb571, 4, none⟩ (.int .i64 t570)) w.heap.size (fun _ => True) v564 t563) := ⟨by (with_reducible repeat (first | apply Kd.R_alloc | apply Kd.R_drewN | apply Kd.R_drew)); exact Kd.R_mono (Kd.R_far (p := ⟨gb571, 4, none⟩) (Kd.R_far (p := ⟨gb571, 3, none⟩) (Kd.R_far (p := ⟨gb571, 2, none⟩) (Kd.R_far (p := ⟨gb571, 1, none⟩) (Kd.R_far (p := ⟨gb571, 0, none⟩) (Kd.R_types HO_10.out BK571.out (by decide)) (fun _ hk => hk.2) (.int .i64 t566)) (fun _ hk => hk.2) (.int .i64 t567)) (fun _ hk => hk.2) (.int .i64 t568)) (fun _ hk => hk.2) (.int .i64 t569)) (fun _ hk => hk.2) (.int .i64 t570)) (fun _ hk => trivial)⟩
                have n1_ : Aside0 ((((((w44.setCell ⟨gb571, 0, none⟩ (.int .i64 t566)).setCell ⟨gb571, 1, none⟩ (.int .i64 t567)).setCell ⟨gb571, 2, none⟩ (.int .i64 t568)).setCell ⟨gb571, 3, none⟩ (.int .i64 t569)).setCell ⟨gb571, 4, none⟩ (.int .i64 t570)).heap[gb560]? = some (.cells #[.int .i64 t554, .int .i64 t555, .int .i64 t556, .int .i64 t557, .int .i64 t558] 62 (0, 0))) := ⟨by (with_reducible repeat (first | refine blk_drewN ?_ _ | refine blk_drew ?_ | refine blk_alloc ?_ _)); refine blk_far ?_ NB560_571.out _; (with_reducible repeat (first | refine blk_drewN ?_ _ | refine blk_drew ?_ | refine blk_alloc ?_ _)); refine blk_far ?_ NB560_571.out _; (with_reducible repeat (first | refine blk_drewN ?_ _ | refine blk_drew ?_ | refine blk_alloc ?_ _)); refine blk_far ?_ NB560_571.out _; (with_reducible repeat (first | refine blk_drewN ?_ _ | refine blk_drew ?_ | refine blk_alloc ?_ _)); refine blk_far ?_ NB560_571.out _; (with_reducible repeat (first | refine blk_drewN ?_ _ | refine blk_drew ?_ | refine blk_alloc ?_ _)); refine blk_far ?_ NB560_571.out _; (with_reducible repeat (first | refine blk_drewN ?_ _ | refine blk_drew ?_ | refine blk_alloc ?_ _)); exact BK560.out⟩
                have n2_ : Aside0 ((((((w44.setCell ⟨gb571, 0, none⟩ (.int .i64 t566)).setCell ⟨gb571, 1, none⟩ (.int .i64 t567)).setCell ⟨gb571, 2, none⟩ (.int .i64 t568)).setCell ⟨gb571, 3, none⟩ (.int .i64 t569)).setCell ⟨gb571, 4, none⟩ (.int .i64 t570)).heap[gb571]? = some (.cells #[.int .i64 t566, .int .i64 t567, .int .i64 t568, .int .i64 t569, .int .i64 t570] 62 (0, 0))) := ⟨by (with_reducible repeat (first | refine blk_drewN ?_ _ | refine blk_drew ?_ | refine blk_alloc ?_ _)); refine blk_put (cs := #[.int .i64 t566, .int .i64 t567, .int .i64 t568, .int .i64 t569, .int .i64 0]) ?_ 4 _ rfl; (with_reducible repeat (first | refine blk_drewN ?_ _ | refine blk_drew ?_ | refine blk_alloc ?_ _)); refine blk_put (cs := #[.int .i64 t566, .int .i64 t567, .int .i64 t568, .int .i64 0, .int .i64 0]) ?_ 3 _ rfl; (with_reducible repeat (first | refine blk_drewN ?_ _ | refine blk_drew ?_ | refine blk_alloc ?_ _)); refine blk_put (cs := #[.int .i64 t566, .int .i64 t567, .int .i64 0, .int .i64 0, .int .i64 0]) ?_ 2 _ rfl; (with_reducible repeat (first | refine blk_drewN ?_ _ | refine blk_drew ?_ | refine blk_alloc ?_ _)); refine blk_put (cs := #[.int .i64 t566, .int .i64 0, .int .i64 0, .int .i64 0, .int .i64 0]) ?_ 1 _ rfl; (with_reducible repeat (first | refine blk_drewN ?_ _ | refine blk_drew ?_ | refine blk_alloc ?_ _)); refine blk_put (cs := #[.int .i64 0, .int .i64 0, .int .i64 0, .int .i64 0, .int .i64 0]) ?_ 0 _ rfl; (with_reducible repeat (first | refine blk_drewN ?_ _ | refine blk_drew ?_ | refine blk_alloc ?_ _)); exact BK571.out⟩
                have n3_ : Aside0 (Below w.heap.size w (((((w44.setCell ⟨gb571, 0, none⟩ (.int .i64 t566)).setCell ⟨gb571, 1, none⟩ (.int .i64 t567)).setCell ⟨gb571, 2, none⟩ (.int .i64 t568)).setCell ⟨gb571, 3, none⟩ (.int .i64 t569)).setCell ⟨gb571, 4, none⟩ (.int .i64 t570))) := ⟨by repeat (first | (with_reducible first | exact HB.out | apply below_alloc | apply pw_below_drewN | apply below_drew1 | refine below_set ?_ GE560.out | refine below_set ?_ GE571.out) | exact HB.out)⟩
                (try clear HO_10)
                (try clear BK560)
                (try clear BK571)
                (try clear HB)
                generalize (((((w44.setCell ⟨gb571, 0, none⟩ (.int .i64 t566)).setCell ⟨gb571, 1, none⟩ (.int .i64 t567)).setCell ⟨gb571, 2, none⟩ (.int .i64 t568)).setCell ⟨gb571, 3, none⟩ (.int .i64 t569)).setCell ⟨gb571, 4, none⟩ (.int .i64 t570)) = w47 at n0_ n1_ n2_ n3_ ⊢
                have HO_10 := n0_
                have BK560 := n1_
                have BK571 := n2_
                have HB := n3_
                clear n0_ n1_ n2_ n3_
                have n0_ := Aside0.mk (Kd.R_drew HO_10.out)
                have n1_ := Aside0.mk (blk_drew BK560.out)
                have n2_ := Aside0.mk (blk_drew BK571.out)
                have n3_ := Aside0.mk (below_drew1 HB.out)
                clear HO_10
                clear BK560
                clear BK571
                clear HB
                have HO_10 := n0_
                have BK560 := n1_
                have BK571 := n2_
                have HB := n3_
                clear n0_ n1_ n2_ n3_
                refine start_ (n := 16) (S := fun w' => w'.cell? ⟨gb571, 0, none⟩ = some (.int .i64 t566) ∧ w'.cell? ⟨gb571, 1, none⟩ = some (.int .i64 t567) ∧ w'.cell? ⟨gb571, 2, none⟩ = some (.int .i64 t568) ∧ w'.cell? ⟨gb571, 3, none⟩ = some (.int .i64 t569) ∧ w'.cell? ⟨gb571, 4, none⟩ = some (.int .i64 t570) ∧ w'.cell? ⟨gb560, 0, none⟩ = some (.int .i64 t554) ∧ w'.cell? ⟨gb560, 1, none⟩ = some (.int .i64 t555) ∧ w'.cell? ⟨gb560, 2, none⟩ = some (.int .i64 t556) ∧ w'.cell? ⟨gb560, 3, none⟩ = some (.int .i64 t557) ∧ w'.cell? ⟨gb560, 4, none⟩ = some (.int .i64 t558)) (ds := []) #[false, false, false, false, false, false, false, false, false, false, false, false, false, false, false, false] (by kernel_rfl) rfl rfl ⟨(blk_cell BK571.out 0).trans rfl, (blk_cell BK571.out 1).trans rfl, (blk_cell BK571.out 2).trans rfl, (blk_cell BK571.out 3).trans rfl, (blk_cell BK571.out 4).trans rfl, (blk_cell BK560.out 0).trans rfl, (blk_cell BK560.out 1).trans rfl, (blk_cell BK560.out 2).trans rfl, (blk_cell BK560.out 3).trans rfl, (blk_cell BK560.out 4).trans rfl⟩ (fun hHeld => ?_); refine with_tabW mootkeep4_StepCan.tab17 mootkeep4_StepCan.bits17 (fun HT_ HW_ => ?_)
                generalize w47.drew = w48 at HO_10 BK560 BK571 HB hHeld ⊢
                refine pure_ (i := 1) (N := some 60) (v := ?_) (a' := ?_) #[false, true, false, false, false, false, false, false, false, false, false, false, false, false, false, false] rfl rfl (any_of HT_.out (by kernel_rfl)) (fun _ _ _ h => h) (Or.inl ⟨by rfl, ?_⟩) ?_ ?_
                rotate_left
                · intro w'
                  go_simp
                  with_reducible rfl
                rotate_left
                · simp only [Act.put, List.setIfInBounds_toArray, List.set_cons_zero, List.set_cons_succ, i64_w, i32_w]
                  rfl
                refine take_ (i := 0) (N := some 59) (v := ?_) (a' := ?_) #[true, true, false, false, false, false, false, false, false, false, false, false, false, false, false, false] rfl rfl (take_ofW HT_.out HW_.out (by kernel_rfl)) (fun _ _ _ h => h) (Or.inl ⟨by rfl, ?_⟩) hHeld ?_ ?_
                rotate_left
                · rintro w' ⟨s0, s1, s2, s3, s4, s5, s6, s7, s8, s9⟩
                  go_simp
                  with_reducible rfl
                rotate_left
                · simp only [Act.put, List.setIfInBounds_toArray, List.set_cons_zero, List.set_cons_succ, i64_w, i32_w]
                  rfl
                refine take_ (i := 3) (N := some 62) (v := ?_) (a' := ?_) #[true, true, false, true, false, false, false, false, false, false, false, false, false, false, false, false] rfl rfl (take_ofW HT_.out HW_.out (by kernel_rfl)) (fun _ _ _ h => h) (Or.inl ⟨by rfl, ?_⟩) hHeld ?_ ?_
                rotate_left
                · rintro w' ⟨s0, s1, s2, s3, s4, s5, s6, s7, s8, s9⟩
                  go_simp
                  with_reducible rfl
                rotate_left
                · simp only [Act.put, List.setIfInBounds_toArray, List.set_cons_zero, List.set_cons_succ, i64_w, i32_w]
                  rfl
                refine one_ (i := 2) (N := some 61) #[true, true, true, true, false, false, false, false, false, false, false, false, false, false, false, false] rfl rfl (one_of HT_.out (by kernel_rfl)) (by decide) (fun K hK => ?_)
                refine goes_ Try.func36 (by kernel_rfl) rfl #[.agg #[.int .i64 t566, .int .i64 t567, .int .i64 t568, .int .i64 t569, .int .i64 t570], .int .i64 (wrap64 (t555 + t561))] (by rfl) rfl rfl (by (try simp only [List.map_toArray, List.map_cons, List.map_nil]); first | done | rfl | (simp only [List.length_drop, List.length_take]; rfl)) ?_
                with_reducible refine (step_On.calls k1 t566 t567 t568 t569 t570 (wrap64 (t555 + t561)) t572 t573 t574 t575 t576 _ A39.out).mono ?_
                rintro e w49 ⟨rfl, hb⟩
                refine ⟨_, rfl, ?_⟩
                have n0_ := Aside0.mk (Kd.R_below (by (with_reducible repeat (first | apply Kd.R_alloc | apply Kd.R_drewN | apply Kd.R_drew)); exact HO_10.out) hb)
                have n1_ := Aside0.mk (blk_below (g := gb560) (o := .cells #[.int .i64 t554, .int .i64 t555, .int .i64 t556, .int .i64 t557, .int .i64 t558] 62 (0, 0)) (by (with_reducible repeat (first | refine blk_drewN ?_ _ | refine blk_drew ?_ | refine blk_alloc ?_ _)); exact BK560.out) hb)
                have n2_ := Aside0.mk (blk_below (g := gb571) (o := .cells #[.int .i64 t566, .int .i64 t567, .int .i64 t568, .int .i64 t569, .int .i64 t570] 62 (0, 0)) (by (with_reducible repeat (first | refine blk_drewN ?_ _ | refine blk_drew ?_ | refine blk_alloc ?_ _)); exact BK571.out) hb)
                have n3_ := Aside0.mk (below_step (by repeat (first | (with_reducible first | exact HB.out | apply below_alloc | apply pw_below_drewN | apply below_drew1 | refine below_set ?_ GE560.out | refine below_set ?_ GE571.out) | exact HB.out)) hb)
                clear HO_10
                clear BK560
                clear BK571
                clear HB
                have HO_10 := n0_
                have BK560 := n1_
                have BK571 := n2_
                have HB := n3_
                clear n0_ n1_ n2_ n3_
                (try clear hb)
                (try clear hb2)
                (try clear hk)
                (try clear hi)
                obtain ⟨Ao50, co50, eo50⟩ := Kd.R_slice HO_10.out
                (first | subst eo50 | (injection eo50 with f1_ f2_ f3_; have f4_ := f1_.symm; have f5_ := f3_.symm; clear f1_ f2_ f3_; subst f4_; subst f5_))
                refine hK.out _ _ ⟨(blk_cell BK571.out 0).trans rfl, (blk_cell BK571.out 1).trans rfl, (blk_cell BK571.out 2).trans rfl, (blk_cell BK571.out 3).trans rfl, (blk_cell BK571.out 4).trans rfl, (blk_cell BK560.out 0).trans rfl, (blk_cell BK560.out 1).trans rfl, (blk_cell BK560.out 2).trans rfl, (blk_cell BK560.out 3).trans rfl, (blk_cell BK560.out 4).trans rfl⟩ (fun hHeld => ?_)
                clear hK K
                refine norm_ (a' := ?_) ?_ ?_
                rotate_left
                · show Act.put _ (some 61) _ = _
                  simp only [Act.put, List.setIfInBounds_toArray, List.set_cons_zero, List.set_cons_succ, i64_w, i32_w]
                  rfl
                refine pure_ (i := 4) (N := some 63) (v := ?_) (a' := ?_) #[true, true, true, true, true, false, false, false, false, false, false, false, false, false, false, false] rfl rfl (any_of HT_.out (by kernel_rfl)) (fun _ _ _ h => h) (Or.inl ⟨by rfl, ?_⟩) ?_ ?_
                rotate_left
                · intro w'
                  go_simp
                  with_reducible rfl
                rotate_left
                · simp only [Act.put, List.setIfInBounds_toArray, List.set_cons_zero, List.set_cons_succ, i64_w, i32_w]
                  rfl
                refine pure_ (i := 5) (N := some 64) (v := ?_) (a' := ?_) #[true, true, true, true, true, true, false, false, false, false, false, false, false, false, false, false] rfl rfl (any_of HT_.out (by kernel_rfl)) (fun _ _ _ h => h) (Or.inl ⟨by rfl, ?_⟩) ?_ ?_
                rotate_left
                · intro w'
                  go_simp
                  with_reducible rfl
                rotate_left
                · simp only [Act.put, List.setIfInBounds_toArray, List.set_cons_zero, List.set_cons_succ, i64_w, i32_w]
                  rfl
                refine pure_ (i := 6) (N := some 65) (v := ?_) (a' := ?_) #[true, true, true, true, true, true, true, false, false, false, false, false, false, false, false, false] rfl rfl (any_of HT_.out (by kernel_rfl)) (fun _ _ _ h => h) (Or.inl ⟨by rfl, ?_⟩) ?_ ?_
                rotate_left
                · intro w'
                  go_simp
                  with_reducible rfl
                rotate_left
                · simp only [Act.put, List.setIfInBounds_toArray, List.set_cons_zero, List.set_cons_succ, i64_w, i32_w]
                  rfl
                refine take_ (i := 7) (N := some 66) (v := ?_) (a' := ?_) #[true, true, true, true, true, true, true, true, false, false, false, false, false, false, false, false] rfl rfl (take_ofW HT_.out HW_.out (by kernel_rfl)) (fun _ _ _ h => h) (Or.inl ⟨by rfl, ?_⟩) hHeld ?_ ?_
                rotate_left
                · rintro w' ⟨s0, s1, s2, s3, s4, s5, s6, s7, s8, s9⟩
                  go_simp
                  with_reducible rfl
                rotate_left
                · simp only [Act.put, List.setIfInBounds_toArray, List.set_cons_zero, List.set_cons_succ, i64_w, i32_w]
                  rfl
                refine pure_ (i := 8) (N := some 67) (v := ?_) (a' := ?_) #[true, true, true, true, true, true, true, true, true, false, false, false, false, false, false, false] rfl rfl (any_of HT_.out (by kernel_rfl)) (fun _ _ _ h => h) (Or.inl ⟨by rfl, ?_⟩) ?_ ?_
                rotate_left
                · intro w'
                  go_simp
                  with_reducible rfl
                rotate_left
                · simp only [Act.put, List.setIfInBounds_toArray, List.set_cons_zero, List.set_cons_succ, i64_w, i32_w]
                  rfl
                refine pure_ (i := 9) (N := some 68) (v := ?_) (a' := ?_) #[true, true, true, true, true, true, true, true, true, true, false, false, false, false, false, false] rfl rfl (any_of HT_.out (by kernel_rfl)) (fun _ _ _ h => h) (Or.inl ⟨by rfl, ?_⟩) ?_ ?_
                rotate_left
                · intro w'
                  go_simp
                  with_reducible rfl
                rotate_left
                · simp only [Act.put, List.setIfInBounds_toArray, List.set_cons_zero, List.set_cons_succ, i64_w, i32_w]
                  rfl
                refine pure_ (i := 10) (N := some 69) (v := ?_) (a' := ?_) #[true, true, true, true, true, true, true, true, true, true, true, false, false, false, false, false] rfl rfl (any_of HT_.out (by kernel_rfl)) (fun _ _ _ h => h) (Or.inl ⟨by rfl, ?_⟩) ?_ ?_
                rotate_left
                · intro w'
                  go_simp
                  with_reducible rfl
                rotate_left
                · simp only [Act.put, List.setIfInBounds_toArray, List.set_cons_zero, List.set_cons_succ, i64_w, i32_w]
                  rfl
                refine pure_ (i := 11) (N := some 70) (v := ?_) (a' := ?_) #[true, true, true, true, true, true, true, true, true, true, true, true, false, false, false, false] rfl rfl (any_of HT_.out (by kernel_rfl)) (fun _ _ _ h => h) (Or.inl ⟨by rfl, ?_⟩) ?_ ?_
                rotate_left
                · intro w'
                  go_simp
                  with_reducible rfl
                rotate_left
                · simp only [Act.put, List.setIfInBounds_toArray, List.set_cons_zero, List.set_cons_succ, i64_w, i32_w]
                  rfl
                refine pure_ (i := 12) (N := some 71) (v := ?_) (a' := ?_) #[true, true, true, true, true, true, true, true, true, true, true, true, true, false, false, false] rfl rfl (any_of HT_.out (by kernel_rfl)) (fun _ _ _ h => h) (Or.inl ⟨by rfl, ?_⟩) ?_ ?_
                rotate_left
                · intro w'
                  go_simp
                  with_reducible rfl
                rotate_left
                · simp only [Act.put, List.setIfInBounds_toArray, List.set_cons_zero, List.set_cons_succ, i64_w, i32_w]
                  rfl
                refine pure_ (i := 13) (N := some 72) (v := ?_) (a' := ?_) #[true, true, true, true, true, true, true, true, true, true, true, true, true, true, false, false] rfl rfl (any_of HT_.out (by kernel_rfl)) (fun _ _ _ h => h) (Or.inl ⟨by rfl, ?_⟩) ?_ ?_
                rotate_left
                · intro w'
                  go_simp
                  with_reducible rfl
                rotate_left
                · simp only [Act.put, List.setIfInBounds_toArray, List.set_cons_zero, List.set_cons_succ, i64_w, i32_w]
                  rfl
                refine pure_ (i := 14) (N := some 73) (v := ?_) (a' := ?_) #[true, true, true, true, true, true, true, true, true, true, true, true, true, true, true, false] rfl rfl (any_of HT_.out (by kernel_rfl)) (fun _ _ _ h => h) (Or.inl ⟨by rfl, ?_⟩) ?_ ?_
                rotate_left
                · intro w'
                  go_simp
                  with_reducible rfl
                rotate_left
                · simp only [Act.put, List.setIfInBounds_toArray, List.set_cons_zero, List.set_cons_succ, i64_w, i32_w]
                  rfl
                refine pure_ (i := 15) (N := some 6) (v := ?_) (a' := ?_) #[true, true, true, true, true, true, true, true, true, true, true, true, true, true, true, true] rfl rfl (any_of HT_.out (by kernel_rfl)) (fun _ _ _ h => h) (Or.inl ⟨by rfl, ?_⟩) ?_ ?_
                rotate_left
                · intro w'
                  go_simp
                  with_reducible rfl
                rotate_left
                · simp only [Act.put, List.setIfInBounds_toArray, List.set_cons_zero, List.set_cons_succ, i64_w, i32_w]
                  rfl
                refine done_ (done_of HT_.out (by kernel_rfl)) ?_
                try go_wp2
                go_ret
                exact ⟨by first | rfl | (simp [errW_none, errW_some] <;> rfl) | (simp [*, errW_none, errW_some] <;> rfl), by repeat (first | (with_reducible first | exact HB.out | apply below_alloc | apply pw_below_drewN | apply below_drew1 | refine below_set ?_ GE560.out | refine below_set ?_ GE571.out) | exact HB.out)⟩
              · rw [if_neg c41] at H
                have c41b0 : (t554 == 7) = false := beq_eq_false_iff_ne.mpr c41
                have c41b1 : (t554 != 7) = true := bne_iff_ne.mpr c41
                obtain rfl := Option.some.inj H
                have hcz51_0 : wr.cell? ⟨gb560, 0, none⟩ = some (.int .i64 t554) := (blk_cell BK560.out 0).trans rfl
                have hcz51_1 : wr.cell? ⟨gb560, 1, none⟩ = some (.int .i64 t555) := (blk_cell BK560.out 1).trans rfl
                have hcz51_2 : wr.cell? ⟨gb560, 2, none⟩ = some (.int .i64 t556) := (blk_cell BK560.out 2).trans rfl
                have hcz51_3 : wr.cell? ⟨gb560, 3, none⟩ = some (.int .i64 t557) := (blk_cell BK560.out 3).trans rfl
                have hcz51_4 : wr.cell? ⟨gb560, 4, none⟩ = some (.int .i64 t558) := (blk_cell BK560.out 4).trans rfl
                have hfz51_0 := blk_frozen BK560.out 0
                have hfz51_1 := blk_frozen BK560.out 1
                have hfz51_2 := blk_frozen BK560.out 2
                have hfz51_3 := blk_frozen BK560.out 3
                have hfz51_4 := blk_frozen BK560.out 4
                try go_wp2_with (first | ((with_reducible refine gate_callee (f := 36) rfl ?_); refine goesL_ (some 58) rfl rfl Try.func36 (by kernel_rfl) rfl #[.agg #[.int .i64 t554, .int .i64 t555, .int .i64 t556, .int .i64 t557, .int .i64 t558], .int .i64 (wrap64 (t555 + t561))] rfl (by (try simp only [List.map_toArray, List.map_cons, List.map_nil]); first | done | rfl | (simp only [List.length_drop, List.length_take]; rfl)) ?_; (with_reducible refine (step_On.calls k1 t554 t555 t556 t557 t558 (wrap64 (t555 + t561)) t566 t567 t568 t569 t570 _ A38.out).mono ?_); rintro e w52 ⟨rfl, hb⟩; refine ⟨_, rfl, ?_⟩; have n0_ := Aside0.mk (Kd.R_below (by (with_reducible repeat (first | apply Kd.R_alloc | apply Kd.R_drewN | apply Kd.R_drew)); exact HO_10.out) hb); have n1_ := Aside0.mk (blk_below (g := gb560) (o := .cells #[.int .i64 t554, .int .i64 t555, .int .i64 t556, .int .i64 t557, .int .i64 t558] 62 (0, 0)) (by (with_reducible repeat (first | refine blk_drewN ?_ _ | refine blk_drew ?_ | refine blk_alloc ?_ _)); exact BK560.out) hb); have n2_ := Aside0.mk (below_step (by repeat (first | (with_reducible first | exact HB.out | apply below_alloc | apply pw_below_drewN | apply below_drew1 | refine below_set ?_ GE560.out) | exact HB.out)) hb); clear HO_10; clear BK560; clear HB; have HO_10 := n0_; have BK560 := n1_; have HB := n2_; clear n0_ n1_ n2_; (try clear hb); (try clear hb2); (try clear hk); (try clear hi)) | ((with_reducible refine gate_dst (N := 14) rfl ?_); (try (refine gate_guard (by rfl) ?_; dsimp only)); refine box_event ?hg (N := 14) ?hd (cs := #[.int .i64 0, .int .i64 0, .int .i64 0, .int .i64 0, .int .i64 0]) (t := 62) ?hr ?_; (case hd => rfl); (case hg => rfl); (case hr => first | (go_simp; done) | (go_simp; rfl)); intro gb571 hg w53 hbox hb; have n0_ := Aside0.mk (Kd.R_below (by (with_reducible repeat (first | apply Kd.R_alloc | apply Kd.R_drewN | apply Kd.R_drew)); exact HO_10.out) hb); have n1_ := Aside0.mk (blk_below (g := gb560) (o := .cells #[.int .i64 t554, .int .i64 t555, .int .i64 t556, .int .i64 t557, .int .i64 t558] 62 (0, 0)) (by (with_reducible repeat (first | refine blk_drewN ?_ _ | refine blk_drew ?_ | refine blk_alloc ?_ _)); exact BK560.out) hb); have n2_ := Aside0.mk (below_step (by repeat (first | (with_reducible first | exact HB.out | apply below_alloc | apply pw_below_drewN | apply below_drew1 | refine below_set ?_ GE560.out) | exact HB.out)) hb); have n3_ := Aside0.mk (hbox); have n4_ := Aside0.mk ((by rw [hg]; exact (below_size (by repeat (first | (with_reducible first | exact HB.out | apply below_alloc | apply pw_below_drewN | apply below_drew1 | refine below_set ?_ GE560.out) | exact HB.out))) : w.heap.size ≤ gb571)); have n5_ := Aside0.mk ((by rw [hg]; exact (below_size (by repeat (first | (with_reducible first | exact HB.out | apply below_alloc | apply pw_below_drewN | apply below_drew1 | refine below_set ?_ GE560.out) | exact HB.out))) : w.heap.size ≤ gb571)); have n6_ := Aside0.mk ((by rw [hg]; exact Nat.ne_of_lt (blk_lt (g := gb560) (o := .cells #[.int .i64 t554, .int .i64 t555, .int .i64 t556, .int .i64 t557, .int .i64 t558] 62 (0, 0)) (by (with_reducible repeat (first | refine blk_drewN ?_ _ | refine blk_drew ?_ | refine blk_alloc ?_ _)); exact BK560.out)) : gb560 ≠ gb571)); have n7_ := Aside0.mk ((by rw [hg]; exact Nat.ne_of_gt (blk_lt (g := gb560) (o := .cells #[.int .i64 t554, .int .i64 t555, .int .i64 t556, .int .i64 t557, .int .i64 t558] 62 (0, 0)) (by (with_reducible repeat (first | refine blk_drewN ?_ _ | refine blk_drew ?_ | refine blk_alloc ?_ _)); exact BK560.out)) : gb571 ≠ gb560)); clear HO_10; clear BK560; clear HB; have HO_10 := n0_; have BK560 := n1_; have HB := n2_; have BK571 := n3_; have GW571 := n4_; have GE571 := n5_; have NB560_571 := n6_; have NB571_560 := n7_; clear n0_ n1_ n2_ n3_ n4_ n5_ n6_ n7_; clear hb hbox hg; have hnb54 := NB571_560.out; have hnc54 := NB560_571.out; have hcz55_0 : w53.cell? ⟨gb571, 0, none⟩ = some (.int .i64 0) := (blk_cell BK571.out 0).trans rfl; have hcz55_1 : w53.cell? ⟨gb571, 1, none⟩ = some (.int .i64 0) := (blk_cell BK571.out 1).trans rfl; have hcz55_2 : w53.cell? ⟨gb571, 2, none⟩ = some (.int .i64 0) := (blk_cell BK571.out 2).trans rfl; have hcz55_3 : w53.cell? ⟨gb571, 3, none⟩ = some (.int .i64 0) := (blk_cell BK571.out 3).trans rfl; have hcz55_4 : w53.cell? ⟨gb571, 4, none⟩ = some (.int .i64 0) := (blk_cell BK571.out 4).trans rfl; have hfz55_0 := blk_frozen BK571.out 0; have hfz55_1 := blk_frozen BK571.out 1; have hfz55_2 := blk_frozen BK571.out 2; have hfz55_3 := blk_frozen BK571.out 3; have hfz55_4 := blk_frozen BK571.out 4))
                have n0_ : Aside0 (Kd.R (Kd.int .i64) 3 (((((w53.setCell ⟨gb571, 0, none⟩ (.int .i64 t566)).setCell ⟨gb571, 1, none⟩ (.int .i64 t567)).setCell ⟨gb571, 2, none⟩ (.int .i64 t568)).setCell ⟨gb571, 3, none⟩ (.int .i64 t569)).setCell ⟨gb571, 4, none⟩ (.int .i64 t570)) w.heap.size (fun _ => True) v564 t563) := ⟨by (with_reducible repeat (first | apply Kd.R_alloc | apply Kd.R_drewN | apply Kd.R_drew)); exact Kd.R_mono (Kd.R_far (p := ⟨gb571, 4, none⟩) (Kd.R_far (p := ⟨gb571, 3, none⟩) (Kd.R_far (p := ⟨gb571, 2, none⟩) (Kd.R_far (p := ⟨gb571, 1, none⟩) (Kd.R_far (p := ⟨gb571, 0, none⟩) (Kd.R_types HO_10.out BK571.out (by decide)) (fun _ hk => hk.2) (.int .i64 t566)) (fun _ hk => hk.2) (.int .i64 t567)) (fun _ hk => hk.2) (.int .i64 t568)) (fun _ hk => hk.2) (.int .i64 t569)) (fun _ hk => hk.2) (.int .i64 t570)) (fun _ hk => trivial)⟩
                have n1_ : Aside0 ((((((w53.setCell ⟨gb571, 0, none⟩ (.int .i64 t566)).setCell ⟨gb571, 1, none⟩ (.int .i64 t567)).setCell ⟨gb571, 2, none⟩ (.int .i64 t568)).setCell ⟨gb571, 3, none⟩ (.int .i64 t569)).setCell ⟨gb571, 4, none⟩ (.int .i64 t570)).heap[gb560]? = some (.cells #[.int .i64 t554, .int .i64 t555, .int .i64 t556, .int .i64 t557, .int .i64 t558] 62 (0, 0))) := ⟨by (with_reducible repeat (first | refine blk_drewN ?_ _ | refine blk_drew ?_ | refine blk_alloc ?_ _)); refine blk_far ?_ NB560_571.out _; (with_reducible repeat (first | refine blk_drewN ?_ _ | refine blk_drew ?_ | refine blk_alloc ?_ _)); refine blk_far ?_ NB560_571.out _; (with_reducible repeat (first | refine blk_drewN ?_ _ | refine blk_drew ?_ | refine blk_alloc ?_ _)); refine blk_far ?_ NB560_571.out _; (with_reducible repeat (first | refine blk_drewN ?_ _ | refine blk_drew ?_ | refine blk_alloc ?_ _)); refine blk_far ?_ NB560_571.out _; (with_reducible repeat (first | refine blk_drewN ?_ _ | refine blk_drew ?_ | refine blk_alloc ?_ _)); refine blk_far ?_ NB560_571.out _; (with_reducible repeat (first | refine blk_drewN ?_ _ | refine blk_drew ?_ | refine blk_alloc ?_ _)); exact BK560.out⟩
                have n2_ : Aside0 ((((((w53.setCell ⟨gb571, 0, none⟩ (.int .i64 t566)).setCell ⟨gb571, 1, none⟩ (.int .i64 t567)).setCell ⟨gb571, 2, none⟩ (.int .i64 t568)).setCell ⟨gb571, 3, none⟩ (.int .i64 t569)).setCell ⟨gb571, 4, none⟩ (.int .i64 t570)).heap[gb571]? = some (.cells #[.int .i64 t566, .int .i64 t567, .int .i64 t568, .int .i64 t569, .int .i64 t570] 62 (0, 0))) := ⟨by (with_reducible repeat (first | refine blk_drewN ?_ _ | refine blk_drew ?_ | refine blk_alloc ?_ _)); refine blk_put (cs := #[.int .i64 t566, .int .i64 t567, .int .i64 t568, .int .i64 t569, .int .i64 0]) ?_ 4 _ rfl; (with_reducible repeat (first | refine blk_drewN ?_ _ | refine blk_drew ?_ | refine blk_alloc ?_ _)); refine blk_put (cs := #[.int .i64 t566, .int .i64 t567, .int .i64 t568, .int .i64 0, .int .i64 0]) ?_ 3 _ rfl; (with_reducible repeat (first | refine blk_drewN ?_ _ | refine blk_drew ?_ | refine blk_alloc ?_ _)); refine blk_put (cs := #[.int .i64 t566, .int .i64 t567, .int .i64 0, .int .i64 0, .int .i64 0]) ?_ 2 _ rfl; (with_reducible repeat (first | refine blk_drewN ?_ _ | refine blk_drew ?_ | refine blk_alloc ?_ _)); refine blk_put (cs := #[.int .i64 t566, .int .i64 0, .int .i64 0, .int .i64 0, .int .i64 0]) ?_ 1 _ rfl; (with_reducible repeat (first | refine blk_drewN ?_ _ | refine blk_drew ?_ | refine blk_alloc ?_ _)); refine blk_put (cs := #[.int .i64 0, .int .i64 0, .int .i64 0, .int .i64 0, .int .i64 0]) ?_ 0 _ rfl; (with_reducible repeat (first | refine blk_drewN ?_ _ | refine blk_drew ?_ | refine blk_alloc ?_ _)); exact BK571.out⟩
                have n3_ : Aside0 (Below w.heap.size w (((((w53.setCell ⟨gb571, 0, none⟩ (.int .i64 t566)).setCell ⟨gb571, 1, none⟩ (.int .i64 t567)).setCell ⟨gb571, 2, none⟩ (.int .i64 t568)).setCell ⟨gb571, 3, none⟩ (.int .i64 t569)).setCell ⟨gb571, 4, none⟩ (.int .i64 t570))) := ⟨by repeat (first | (with_reducible first | exact HB.out | apply below_alloc | apply pw_below_drewN | apply below_drew1 | refine below_set ?_ GE560.out | refine below_set ?_ GE571.out) | exact HB.out)⟩
                (try clear HO_10)
                (try clear BK560)
                (try clear BK571)
                (try clear HB)
                generalize (((((w53.setCell ⟨gb571, 0, none⟩ (.int .i64 t566)).setCell ⟨gb571, 1, none⟩ (.int .i64 t567)).setCell ⟨gb571, 2, none⟩ (.int .i64 t568)).setCell ⟨gb571, 3, none⟩ (.int .i64 t569)).setCell ⟨gb571, 4, none⟩ (.int .i64 t570)) = w56 at n0_ n1_ n2_ n3_ ⊢
                have HO_10 := n0_
                have BK560 := n1_
                have BK571 := n2_
                have HB := n3_
                clear n0_ n1_ n2_ n3_
                have n0_ := Aside0.mk (Kd.R_drew HO_10.out)
                have n1_ := Aside0.mk (blk_drew BK560.out)
                have n2_ := Aside0.mk (blk_drew BK571.out)
                have n3_ := Aside0.mk (below_drew1 HB.out)
                clear HO_10
                clear BK560
                clear BK571
                clear HB
                have HO_10 := n0_
                have BK560 := n1_
                have BK571 := n2_
                have HB := n3_
                clear n0_ n1_ n2_ n3_
                refine start_ (n := 16) (S := fun w' => w'.cell? ⟨gb571, 0, none⟩ = some (.int .i64 t566) ∧ w'.cell? ⟨gb571, 1, none⟩ = some (.int .i64 t567) ∧ w'.cell? ⟨gb571, 2, none⟩ = some (.int .i64 t568) ∧ w'.cell? ⟨gb571, 3, none⟩ = some (.int .i64 t569) ∧ w'.cell? ⟨gb571, 4, none⟩ = some (.int .i64 t570) ∧ w'.cell? ⟨gb560, 0, none⟩ = some (.int .i64 t554) ∧ w'.cell? ⟨gb560, 1, none⟩ = some (.int .i64 t555) ∧ w'.cell? ⟨gb560, 2, none⟩ = some (.int .i64 t556) ∧ w'.cell? ⟨gb560, 3, none⟩ = some (.int .i64 t557) ∧ w'.cell? ⟨gb560, 4, none⟩ = some (.int .i64 t558)) (ds := []) #[false, false, false, false, false, false, false, false, false, false, false, false, false, false, false, false] (by kernel_rfl) rfl rfl ⟨(blk_cell BK571.out 0).trans rfl, (blk_cell BK571.out 1).trans rfl, (blk_cell BK571.out 2).trans rfl, (blk_cell BK571.out 3).trans rfl, (blk_cell BK571.out 4).trans rfl, (blk_cell BK560.out 0).trans rfl, (blk_cell BK560.out 1).trans rfl, (blk_cell BK560.out 2).trans rfl, (blk_cell BK560.out 3).trans rfl, (blk_cell BK560.out 4).trans rfl⟩ (fun hHeld => ?_); refine with_tabW mootkeep4_StepCan.tab17 mootkeep4_StepCan.bits17 (fun HT_ HW_ => ?_)
                generalize w56.drew = w57 at HO_10 BK560 BK571 HB hHeld ⊢
                refine pure_ (i := 1) (N := some 60) (v := ?_) (a' := ?_) #[false, true, false, false, false, false, false, false, false, false, false, false, false, false, false, false] rfl rfl (any_of HT_.out (by kernel_rfl)) (fun _ _ _ h => h) (Or.inl ⟨by rfl, ?_⟩) ?_ ?_
                rotate_left
                · intro w'
                  go_simp
                  with_reducible rfl
                rotate_left
                · simp only [Act.put, List.setIfInBounds_toArray, List.set_cons_zero, List.set_cons_succ, i64_w, i32_w]
                  rfl
                refine take_ (i := 0) (N := some 59) (v := ?_) (a' := ?_) #[true, true, false, false, false, false, false, false, false, false, false, false, false, false, false, false] rfl rfl (take_ofW HT_.out HW_.out (by kernel_rfl)) (fun _ _ _ h => h) (Or.inl ⟨by rfl, ?_⟩) hHeld ?_ ?_
                rotate_left
                · rintro w' ⟨s0, s1, s2, s3, s4, s5, s6, s7, s8, s9⟩
                  go_simp
                  with_reducible rfl
                rotate_left
                · simp only [Act.put, List.setIfInBounds_toArray, List.set_cons_zero, List.set_cons_succ, i64_w, i32_w]
                  rfl
                refine take_ (i := 3) (N := some 62) (v := ?_) (a' := ?_) #[true, true, false, true, false, false, false, false, false, false, false, false, false, false, false, false] rfl rfl (take_ofW HT_.out HW_.out (by kernel_rfl)) (fun _ _ _ h => h) (Or.inl ⟨by rfl, ?_⟩) hHeld ?_ ?_
                rotate_left
                · rintro w' ⟨s0, s1, s2, s3, s4, s5, s6, s7, s8, s9⟩
                  go_simp
                  with_reducible rfl
                rotate_left
                · simp only [Act.put, List.setIfInBounds_toArray, List.set_cons_zero, List.set_cons_succ, i64_w, i32_w]
                  rfl
                refine one_ (i := 2) (N := some 61) #[true, true, true, true, false, false, false, false, false, false, false, false, false, false, false, false] rfl rfl (one_of HT_.out (by kernel_rfl)) (by decide) (fun K hK => ?_)
                refine goes_ Try.func36 (by kernel_rfl) rfl #[.agg #[.int .i64 t566, .int .i64 t567, .int .i64 t568, .int .i64 t569, .int .i64 t570], .int .i64 (wrap64 (t555 + t561))] (by rfl) rfl rfl (by (try simp only [List.map_toArray, List.map_cons, List.map_nil]); first | done | rfl | (simp only [List.length_drop, List.length_take]; rfl)) ?_
                with_reducible refine (step_On.calls k1 t566 t567 t568 t569 t570 (wrap64 (t555 + t561)) t572 t573 t574 t575 t576 _ A39.out).mono ?_
                rintro e w58 ⟨rfl, hb⟩
                refine ⟨_, rfl, ?_⟩
                have n0_ := Aside0.mk (Kd.R_below (by (with_reducible repeat (first | apply Kd.R_alloc | apply Kd.R_drewN | apply Kd.R_drew)); exact HO_10.out) hb)
                have n1_ := Aside0.mk (blk_below (g := gb560) (o := .cells #[.int .i64 t554, .int .i64 t555, .int .i64 t556, .int .i64 t557, .int .i64 t558] 62 (0, 0)) (by (with_reducible repeat (first | refine blk_drewN ?_ _ | refine blk_drew ?_ | refine blk_alloc ?_ _)); exact BK560.out) hb)
                have n2_ := Aside0.mk (blk_below (g := gb571) (o := .cells #[.int .i64 t566, .int .i64 t567, .int .i64 t568, .int .i64 t569, .int .i64 t570] 62 (0, 0)) (by (with_reducible repeat (first | refine blk_drewN ?_ _ | refine blk_drew ?_ | refine blk_alloc ?_ _)); exact BK571.out) hb)
                have n3_ := Aside0.mk (below_step (by repeat (first | (with_reducible first | exact HB.out | apply below_alloc | apply pw_below_drewN | apply below_drew1 | refine below_set ?_ GE560.out | refine below_set ?_ GE571.out) | exact HB.out)) hb)
                clear HO_10
                clear BK560
                clear BK571
                clear HB
                have HO_10 := n0_
                have BK560 := n1_
                have BK571 := n2_
                have HB := n3_
                clear n0_ n1_ n2_ n3_
                (try clear hb)
                (try clear hb2)
                (try clear hk)
                (try clear hi)
                refine hK.out _ _ ⟨(blk_cell BK571.out 0).trans rfl, (blk_cell BK571.out 1).trans rfl, (blk_cell BK571.out 2).trans rfl, (blk_cell BK571.out 3).trans rfl, (blk_cell BK571.out 4).trans rfl, (blk_cell BK560.out 0).trans rfl, (blk_cell BK560.out 1).trans rfl, (blk_cell BK560.out 2).trans rfl, (blk_cell BK560.out 3).trans rfl, (blk_cell BK560.out 4).trans rfl⟩ (fun hHeld => ?_)
                clear hK K
                refine norm_ (a' := ?_) ?_ ?_
                rotate_left
                · show Act.put _ (some 61) _ = _
                  simp only [Act.put, List.setIfInBounds_toArray, List.set_cons_zero, List.set_cons_succ, i64_w, i32_w]
                  rfl
                refine pure_ (i := 4) (N := some 63) (v := ?_) (a' := ?_) #[true, true, true, true, true, false, false, false, false, false, false, false, false, false, false, false] rfl rfl (any_of HT_.out (by kernel_rfl)) (fun _ _ _ h => h) (Or.inl ⟨by rfl, ?_⟩) ?_ ?_
                rotate_left
                · intro w'
                  go_simp
                  with_reducible rfl
                rotate_left
                · simp only [Act.put, List.setIfInBounds_toArray, List.set_cons_zero, List.set_cons_succ, i64_w, i32_w]
                  rfl
                refine pure_ (i := 5) (N := some 64) (v := ?_) (a' := ?_) #[true, true, true, true, true, true, false, false, false, false, false, false, false, false, false, false] rfl rfl (any_of HT_.out (by kernel_rfl)) (fun _ _ _ h => h) (Or.inl ⟨by rfl, ?_⟩) ?_ ?_
                rotate_left
                · intro w'
                  go_simp
                  with_reducible rfl
                rotate_left
                · simp only [Act.put, List.setIfInBounds_toArray, List.set_cons_zero, List.set_cons_succ, i64_w, i32_w]
                  rfl
                refine pure_ (i := 6) (N := some 65) (v := ?_) (a' := ?_) #[true, true, true, true, true, true, true, false, false, false, false, false, false, false, false, false] rfl rfl (any_of HT_.out (by kernel_rfl)) (fun _ _ _ h => h) (Or.inl ⟨by rfl, ?_⟩) ?_ ?_
                rotate_left
                · intro w'
                  go_simp
                  with_reducible rfl
                rotate_left
                · simp only [Act.put, List.setIfInBounds_toArray, List.set_cons_zero, List.set_cons_succ, i64_w, i32_w]
                  rfl
                refine take_ (i := 7) (N := some 66) (v := ?_) (a' := ?_) #[true, true, true, true, true, true, true, true, false, false, false, false, false, false, false, false] rfl rfl (take_ofW HT_.out HW_.out (by kernel_rfl)) (fun _ _ _ h => h) (Or.inl ⟨by rfl, ?_⟩) hHeld ?_ ?_
                rotate_left
                · rintro w' ⟨s0, s1, s2, s3, s4, s5, s6, s7, s8, s9⟩
                  go_simp
                  with_reducible rfl
                rotate_left
                · simp only [Act.put, List.setIfInBounds_toArray, List.set_cons_zero, List.set_cons_succ, i64_w, i32_w]
                  rfl
                refine pure_ (i := 8) (N := some 67) (v := ?_) (a' := ?_) #[true, true, true, true, true, true, true, true, true, false, false, false, false, false, false, false] rfl rfl (any_of HT_.out (by kernel_rfl)) (fun _ _ _ h => h) (Or.inl ⟨by rfl, ?_⟩) ?_ ?_
                rotate_left
                · intro w'
                  go_simp
                  with_reducible rfl
                rotate_left
                · simp only [Act.put, List.setIfInBounds_toArray, List.set_cons_zero, List.set_cons_succ, i64_w, i32_w]
                  rfl
                refine pure_ (i := 9) (N := some 68) (v := ?_) (a' := ?_) #[true, true, true, true, true, true, true, true, true, true, false, false, false, false, false, false] rfl rfl (any_of HT_.out (by kernel_rfl)) (fun _ _ _ h => h) (Or.inl ⟨by rfl, ?_⟩) ?_ ?_
                rotate_left
                · intro w'
                  go_simp
                  with_reducible rfl
                rotate_left
                · simp only [Act.put, List.setIfInBounds_toArray, List.set_cons_zero, List.set_cons_succ, i64_w, i32_w]
                  rfl
                refine pure_ (i := 10) (N := some 69) (v := undef) (a' := ?_) #[true, true, true, true, true, true, true, true, true, true, true, false, false, false, false, false] rfl rfl (any_of HT_.out (by kernel_rfl)) (fun _ _ _ h => h) (Or.inr ⟨by rfl, rfl⟩) ?_ ?_
                rotate_left
                · simp only [Act.put, List.setIfInBounds_toArray, List.set_cons_zero, List.set_cons_succ, i64_w, i32_w]
                  rfl
                refine pure_ (i := 11) (N := some 70) (v := undef) (a' := ?_) #[true, true, true, true, true, true, true, true, true, true, true, true, false, false, false, false] rfl rfl (any_of HT_.out (by kernel_rfl)) (fun _ _ _ h => h) (Or.inr ⟨by rfl, rfl⟩) ?_ ?_
                rotate_left
                · simp only [Act.put, List.setIfInBounds_toArray, List.set_cons_zero, List.set_cons_succ, i64_w, i32_w]
                  rfl
                refine pure_ (i := 12) (N := some 71) (v := undef) (a' := ?_) #[true, true, true, true, true, true, true, true, true, true, true, true, true, false, false, false] rfl rfl (any_of HT_.out (by kernel_rfl)) (fun _ _ _ h => h) (Or.inr ⟨by rfl, rfl⟩) ?_ ?_
                rotate_left
                · simp only [Act.put, List.setIfInBounds_toArray, List.set_cons_zero, List.set_cons_succ, i64_w, i32_w]
                  rfl
                refine pure_ (i := 13) (N := some 72) (v := ?_) (a' := ?_) #[true, true, true, true, true, true, true, true, true, true, true, true, true, true, false, false] rfl rfl (any_of HT_.out (by kernel_rfl)) (fun _ _ _ h => h) (Or.inl ⟨by rfl, ?_⟩) ?_ ?_
                rotate_left
                · intro w'
                  go_simp
                  with_reducible rfl
                rotate_left
                · simp only [Act.put, List.setIfInBounds_toArray, List.set_cons_zero, List.set_cons_succ, i64_w, i32_w]
                  rfl
                refine pure_ (i := 14) (N := some 73) (v := ?_) (a' := ?_) #[true, true, true, true, true, true, true, true, true, true, true, true, true, true, true, false] rfl rfl (any_of HT_.out (by kernel_rfl)) (fun _ _ _ h => h) (Or.inl ⟨by rfl, ?_⟩) ?_ ?_
                rotate_left
                · intro w'
                  go_simp
                  with_reducible rfl
                rotate_left
                · simp only [Act.put, List.setIfInBounds_toArray, List.set_cons_zero, List.set_cons_succ, i64_w, i32_w]
                  rfl
                refine pure_ (i := 15) (N := some 6) (v := ?_) (a' := ?_) #[true, true, true, true, true, true, true, true, true, true, true, true, true, true, true, true] rfl rfl (any_of HT_.out (by kernel_rfl)) (fun _ _ _ h => h) (Or.inl ⟨by rfl, ?_⟩) ?_ ?_
                rotate_left
                · intro w'
                  go_simp
                  with_reducible rfl
                rotate_left
                · simp only [Act.put, List.setIfInBounds_toArray, List.set_cons_zero, List.set_cons_succ, i64_w, i32_w]
                  rfl
                refine done_ (done_of HT_.out (by kernel_rfl)) ?_
                try go_wp2
                go_ret
                exact ⟨by first | rfl | (simp [errW_none, errW_some] <;> rfl) | (simp [*, errW_none, errW_some] <;> rfl), by repeat (first | (with_reducible first | exact HB.out | apply below_alloc | apply pw_below_drewN | apply below_drew1 | refine below_set ?_ GE560.out | refine below_set ?_ GE571.out) | exact HB.out)⟩
            · rw [if_neg c40] at H
              have c40b0 : (t572 == t566 && (t573 == t567 && (t574 == t568 && (t575 == t569 && (t576 == t570))))) = false := by simpa using c40
              (try (have c40b1 : decide (t572 = t566 && (t573 == t567 && (t574 == t568 && (t575 == t569 && (t576 == t570))))) = false := by simpa using c40))
              (try (have c40b2 : (t572 == t566 && (t573 == t567 && (t574 == t568 && (t575 == t569 && (t576 == t570))))) = false := by simpa using c40))
              (try (have c40b3 : ¬ (t572 = t566 && (t573 == t567 && (t574 == t568 && (t575 == t569 && (t576 == t570))))) := by simpa using c40))
              clear c40
              obtain rfl := Option.some.inj H
              have hcz59_0 : wr.cell? ⟨gb560, 0, none⟩ = some (.int .i64 t554) := (blk_cell BK560.out 0).trans rfl
              have hcz59_1 : wr.cell? ⟨gb560, 1, none⟩ = some (.int .i64 t555) := (blk_cell BK560.out 1).trans rfl
              have hcz59_2 : wr.cell? ⟨gb560, 2, none⟩ = some (.int .i64 t556) := (blk_cell BK560.out 2).trans rfl
              have hcz59_3 : wr.cell? ⟨gb560, 3, none⟩ = some (.int .i64 t557) := (blk_cell BK560.out 3).trans rfl
              have hcz59_4 : wr.cell? ⟨gb560, 4, none⟩ = some (.int .i64 t558) := (blk_cell BK560.out 4).trans rfl
              have hfz59_0 := blk_frozen BK560.out 0
              have hfz59_1 := blk_frozen BK560.out 1
              have hfz59_2 := blk_frozen BK560.out 2
              have hfz59_3 := blk_frozen BK560.out 3
              have hfz59_4 := blk_frozen BK560.out 4
              try go_wp2_with (first | ((with_reducible refine gate_callee (f := 36) rfl ?_); refine goesL_ (some 58) rfl rfl Try.func36 (by kernel_rfl) rfl #[.agg #[.int .i64 t554, .int .i64 t555, .int .i64 t556, .int .i64 t557, .int .i64 t558], .int .i64 (wrap64 (t555 + t561))] rfl (by (try simp only [List.map_toArray, List.map_cons, List.map_nil]); first | done | rfl | (simp only [List.length_drop, List.length_take]; rfl)) ?_; (with_reducible refine (step_On.calls k1 t554 t555 t556 t557 t558 (wrap64 (t555 + t561)) t566 t567 t568 t569 t570 _ A38.out).mono ?_); rintro e w60 ⟨rfl, hb⟩; refine ⟨_, rfl, ?_⟩; have n0_ := Aside0.mk (Kd.R_below (by (with_reducible repeat (first | apply Kd.R_alloc | apply Kd.R_drewN | apply Kd.R_drew)); exact HO_10.out) hb); have n1_ := Aside0.mk (blk_below (g := gb560) (o := .cells #[.int .i64 t554, .int .i64 t555, .int .i64 t556, .int .i64 t557, .int .i64 t558] 62 (0, 0)) (by (with_reducible repeat (first | refine blk_drewN ?_ _ | refine blk_drew ?_ | refine blk_alloc ?_ _)); exact BK560.out) hb); have n2_ := Aside0.mk (below_step (by repeat (first | (with_reducible first | exact HB.out | apply below_alloc | apply pw_below_drewN | apply below_drew1 | refine below_set ?_ GE560.out) | exact HB.out)) hb); clear HO_10; clear BK560; clear HB; have HO_10 := n0_; have BK560 := n1_; have HB := n2_; clear n0_ n1_ n2_; (try clear hb); (try clear hb2); (try clear hk); (try clear hi)) | ((with_reducible refine gate_dst (N := 14) rfl ?_); (try (refine gate_guard (by rfl) ?_; dsimp only)); refine box_event ?hg (N := 14) ?hd (cs := #[.int .i64 0, .int .i64 0, .int .i64 0, .int .i64 0, .int .i64 0]) (t := 62) ?hr ?_; (case hd => rfl); (case hg => rfl); (case hr => first | (go_simp; done) | (go_simp; rfl)); intro gb571 hg w61 hbox hb; have n0_ := Aside0.mk (Kd.R_below (by (with_reducible repeat (first | apply Kd.R_alloc | apply Kd.R_drewN | apply Kd.R_drew)); exact HO_10.out) hb); have n1_ := Aside0.mk (blk_below (g := gb560) (o := .cells #[.int .i64 t554, .int .i64 t555, .int .i64 t556, .int .i64 t557, .int .i64 t558] 62 (0, 0)) (by (with_reducible repeat (first | refine blk_drewN ?_ _ | refine blk_drew ?_ | refine blk_alloc ?_ _)); exact BK560.out) hb); have n2_ := Aside0.mk (below_step (by repeat (first | (with_reducible first | exact HB.out | apply below_alloc | apply pw_below_drewN | apply below_drew1 | refine below_set ?_ GE560.out) | exact HB.out)) hb); have n3_ := Aside0.mk (hbox); have n4_ := Aside0.mk ((by rw [hg]; exact (below_size (by repeat (first | (with_reducible first | exact HB.out | apply below_alloc | apply pw_below_drewN | apply below_drew1 | refine below_set ?_ GE560.out) | exact HB.out))) : w.heap.size ≤ gb571)); have n5_ := Aside0.mk ((by rw [hg]; exact (below_size (by repeat (first | (with_reducible first | exact HB.out | apply below_alloc | apply pw_below_drewN | apply below_drew1 | refine below_set ?_ GE560.out) | exact HB.out))) : w.heap.size ≤ gb571)); have n6_ := Aside0.mk ((by rw [hg]; exact Nat.ne_of_lt (blk_lt (g := gb560) (o := .cells #[.int .i64 t554, .int .i64 t555, .int .i64 t556, .int .i64 t557, .int .i64 t558] 62 (0, 0)) (by (with_reducible repeat (first | refine blk_drewN ?_ _ | refine blk_drew ?_ | refine blk_alloc ?_ _)); exact BK560.out)) : gb560 ≠ gb571)); have n7_ := Aside0.mk ((by rw [hg]; exact Nat.ne_of_gt (blk_lt (g := gb560) (o := .cells #[.int .i64 t554, .int .i64 t555, .int .i64 t556, .int .i64 t557, .int .i64 t558] 62 (0, 0)) (by (with_reducible repeat (first | refine blk_drewN ?_ _ | refine blk_drew ?_ | refine blk_alloc ?_ _)); exact BK560.out)) : gb571 ≠ gb560)); clear HO_10; clear BK560; clear HB; have HO_10 := n0_; have BK560 := n1_; have HB := n2_; have BK571 := n3_; have GW571 := n4_; have GE571 := n5_; have NB560_571 := n6_; have NB571_560 := n7_; clear n0_ n1_ n2_ n3_ n4_ n5_ n6_ n7_; clear hb hbox hg; have hnb62 := NB571_560.out; have hnc62 := NB560_571.out; have hcz63_0 : w61.cell? ⟨gb571, 0, none⟩ = some (.int .i64 0) := (blk_cell BK571.out 0).trans rfl; have hcz63_1 : w61.cell? ⟨gb571, 1, none⟩ = some (.int .i64 0) := (blk_cell BK571.out 1).trans rfl; have hcz63_2 : w61.cell? ⟨gb571, 2, none⟩ = some (.int .i64 0) := (blk_cell BK571.out 2).trans rfl; have hcz63_3 : w61.cell? ⟨gb571, 3, none⟩ = some (.int .i64 0) := (blk_cell BK571.out 3).trans rfl; have hcz63_4 : w61.cell? ⟨gb571, 4, none⟩ = some (.int .i64 0) := (blk_cell BK571.out 4).trans rfl; have hfz63_0 := blk_frozen BK571.out 0; have hfz63_1 := blk_frozen BK571.out 1; have hfz63_2 := blk_frozen BK571.out 2; have hfz63_3 := blk_frozen BK571.out 3; have hfz63_4 := blk_frozen BK571.out 4))
              have n0_ : Aside0 (Kd.R (Kd.int .i64) 3 (((((w61.setCell ⟨gb571, 0, none⟩ (.int .i64 t566)).setCell ⟨gb571, 1, none⟩ (.int .i64 t567)).setCell ⟨gb571, 2, none⟩ (.int .i64 t568)).setCell ⟨gb571, 3, none⟩ (.int .i64 t569)).setCell ⟨gb571, 4, none⟩ (.int .i64 t570)) w.heap.size (fun _ => True) v564 t563) := ⟨by (with_reducible repeat (first | apply Kd.R_alloc | apply Kd.R_drewN | apply Kd.R_drew)); exact Kd.R_mono (Kd.R_far (p := ⟨gb571, 4, none⟩) (Kd.R_far (p := ⟨gb571, 3, none⟩) (Kd.R_far (p := ⟨gb571, 2, none⟩) (Kd.R_far (p := ⟨gb571, 1, none⟩) (Kd.R_far (p := ⟨gb571, 0, none⟩) (Kd.R_types HO_10.out BK571.out (by decide)) (fun _ hk => hk.2) (.int .i64 t566)) (fun _ hk => hk.2) (.int .i64 t567)) (fun _ hk => hk.2) (.int .i64 t568)) (fun _ hk => hk.2) (.int .i64 t569)) (fun _ hk => hk.2) (.int .i64 t570)) (fun _ hk => trivial)⟩
              have n1_ : Aside0 ((((((w61.setCell ⟨gb571, 0, none⟩ (.int .i64 t566)).setCell ⟨gb571, 1, none⟩ (.int .i64 t567)).setCell ⟨gb571, 2, none⟩ (.int .i64 t568)).setCell ⟨gb571, 3, none⟩ (.int .i64 t569)).setCell ⟨gb571, 4, none⟩ (.int .i64 t570)).heap[gb560]? = some (.cells #[.int .i64 t554, .int .i64 t555, .int .i64 t556, .int .i64 t557, .int .i64 t558] 62 (0, 0))) := ⟨by (with_reducible repeat (first | refine blk_drewN ?_ _ | refine blk_drew ?_ | refine blk_alloc ?_ _)); refine blk_far ?_ NB560_571.out _; (with_reducible repeat (first | refine blk_drewN ?_ _ | refine blk_drew ?_ | refine blk_alloc ?_ _)); refine blk_far ?_ NB560_571.out _; (with_reducible repeat (first | refine blk_drewN ?_ _ | refine blk_drew ?_ | refine blk_alloc ?_ _)); refine blk_far ?_ NB560_571.out _; (with_reducible repeat (first | refine blk_drewN ?_ _ | refine blk_drew ?_ | refine blk_alloc ?_ _)); refine blk_far ?_ NB560_571.out _; (with_reducible repeat (first | refine blk_drewN ?_ _ | refine blk_drew ?_ | refine blk_alloc ?_ _)); refine blk_far ?_ NB560_571.out _; (with_reducible repeat (first | refine blk_drewN ?_ _ | refine blk_drew ?_ | refine blk_alloc ?_ _)); exact BK560.out⟩
              have n2_ : Aside0 ((((((w61.setCell ⟨gb571, 0, none⟩ (.int .i64 t566)).setCell ⟨gb571, 1, none⟩ (.int .i64 t567)).setCell ⟨gb571, 2, none⟩ (.int .i64 t568)).setCell ⟨gb571, 3, none⟩ (.int .i64 t569)).setCell ⟨gb571, 4, none⟩ (.int .i64 t570)).heap[gb571]? = some (.cells #[.int .i64 t566, .int .i64 t567, .int .i64 t568, .int .i64 t569, .int .i64 t570] 62 (0, 0))) := ⟨by (with_reducible repeat (first | refine blk_drewN ?_ _ | refine blk_drew ?_ | refine blk_alloc ?_ _)); refine blk_put (cs := #[.int .i64 t566, .int .i64 t567, .int .i64 t568, .int .i64 t569, .int .i64 0]) ?_ 4 _ rfl; (with_reducible repeat (first | refine blk_drewN ?_ _ | refine blk_drew ?_ | refine blk_alloc ?_ _)); refine blk_put (cs := #[.int .i64 t566, .int .i64 t567, .int .i64 t568, .int .i64 0, .int .i64 0]) ?_ 3 _ rfl; (with_reducible repeat (first | refine blk_drewN ?_ _ | refine blk_drew ?_ | refine blk_alloc ?_ _)); refine blk_put (cs := #[.int .i64 t566, .int .i64 t567, .int .i64 0, .int .i64 0, .int .i64 0]) ?_ 2 _ rfl; (with_reducible repeat (first | refine blk_drewN ?_ _ | refine blk_drew ?_ | refine blk_alloc ?_ _)); refine blk_put (cs := #[.int .i64 t566, .int .i64 0, .int .i64 0, .int .i64 0, .int .i64 0]) ?_ 1 _ rfl; (with_reducible repeat (first | refine blk_drewN ?_ _ | refine blk_drew ?_ | refine blk_alloc ?_ _)); refine blk_put (cs := #[.int .i64 0, .int .i64 0, .int .i64 0, .int .i64 0, .int .i64 0]) ?_ 0 _ rfl; (with_reducible repeat (first | refine blk_drewN ?_ _ | refine blk_drew ?_ | refine blk_alloc ?_ _)); exact BK571.out⟩
              have n3_ : Aside0 (Below w.heap.size w (((((w61.setCell ⟨gb571, 0, none⟩ (.int .i64 t566)).setCell ⟨gb571, 1, none⟩ (.int .i64 t567)).setCell ⟨gb571, 2, none⟩ (.int .i64 t568)).setCell ⟨gb571, 3, none⟩ (.int .i64 t569)).setCell ⟨gb571, 4, none⟩ (.int .i64 t570))) := ⟨by repeat (first | (with_reducible first | exact HB.out | apply below_alloc | apply pw_below_drewN | apply below_drew1 | refine below_set ?_ GE560.out | refine below_set ?_ GE571.out) | exact HB.out)⟩
              (try clear HO_10)
              (try clear BK560)
              (try clear BK571)
              (try clear HB)
              generalize (((((w61.setCell ⟨gb571, 0, none⟩ (.int .i64 t566)).setCell ⟨gb571, 1, none⟩ (.int .i64 t567)).setCell ⟨gb571, 2, none⟩ (.int .i64 t568)).setCell ⟨gb571, 3, none⟩ (.int .i64 t569)).setCell ⟨gb571, 4, none⟩ (.int .i64 t570)) = w64 at n0_ n1_ n2_ n3_ ⊢
              have HO_10 := n0_
              have BK560 := n1_
              have BK571 := n2_
              have HB := n3_
              clear n0_ n1_ n2_ n3_
              have n0_ := Aside0.mk (Kd.R_drew HO_10.out)
              have n1_ := Aside0.mk (blk_drew BK560.out)
              have n2_ := Aside0.mk (blk_drew BK571.out)
              have n3_ := Aside0.mk (below_drew1 HB.out)
              clear HO_10
              clear BK560
              clear BK571
              clear HB
              have HO_10 := n0_
              have BK560 := n1_
              have BK571 := n2_
              have HB := n3_
              clear n0_ n1_ n2_ n3_
              refine start_ (n := 16) (S := fun w' => w'.cell? ⟨gb571, 0, none⟩ = some (.int .i64 t566) ∧ w'.cell? ⟨gb571, 1, none⟩ = some (.int .i64 t567) ∧ w'.cell? ⟨gb571, 2, none⟩ = some (.int .i64 t568) ∧ w'.cell? ⟨gb571, 3, none⟩ = some (.int .i64 t569) ∧ w'.cell? ⟨gb571, 4, none⟩ = some (.int .i64 t570)) (ds := []) #[false, false, false, false, false, false, false, false, false, false, false, false, false, false, false, false] (by kernel_rfl) rfl rfl ⟨(blk_cell BK571.out 0).trans rfl, (blk_cell BK571.out 1).trans rfl, (blk_cell BK571.out 2).trans rfl, (blk_cell BK571.out 3).trans rfl, (blk_cell BK571.out 4).trans rfl⟩ (fun hHeld => ?_); refine with_tabW mootkeep4_StepCan.tab17 mootkeep4_StepCan.bits17 (fun HT_ HW_ => ?_)
              generalize w64.drew = w65 at HO_10 BK560 BK571 HB hHeld ⊢
              refine pure_ (i := 1) (N := some 60) (v := ?_) (a' := ?_) #[false, true, false, false, false, false, false, false, false, false, false, false, false, false, false, false] rfl rfl (any_of HT_.out (by kernel_rfl)) (fun _ _ _ h => h) (Or.inl ⟨by rfl, ?_⟩) ?_ ?_
              rotate_left
              · intro w'
                go_simp
                with_reducible rfl
              rotate_left
              · simp only [Act.put, List.setIfInBounds_toArray, List.set_cons_zero, List.set_cons_succ, i64_w, i32_w]
                rfl
              refine take_ (i := 0) (N := some 59) (v := ?_) (a' := ?_) #[true, true, false, false, false, false, false, false, false, false, false, false, false, false, false, false] rfl rfl (take_ofW HT_.out HW_.out (by kernel_rfl)) (fun _ _ _ h => h) (Or.inl ⟨by rfl, ?_⟩) hHeld ?_ ?_
              rotate_left
              · rintro w' ⟨s0, s1, s2, s3, s4⟩
                go_simp
                with_reducible rfl
              rotate_left
              · simp only [Act.put, List.setIfInBounds_toArray, List.set_cons_zero, List.set_cons_succ, i64_w, i32_w]
                rfl
              refine take_ (i := 3) (N := some 62) (v := ?_) (a' := ?_) #[true, true, false, true, false, false, false, false, false, false, false, false, false, false, false, false] rfl rfl (take_ofW HT_.out HW_.out (by kernel_rfl)) (fun _ _ _ h => h) (Or.inl ⟨by rfl, ?_⟩) hHeld ?_ ?_
              rotate_left
              · rintro w' ⟨s0, s1, s2, s3, s4⟩
                go_simp
                with_reducible rfl
              rotate_left
              · simp only [Act.put, List.setIfInBounds_toArray, List.set_cons_zero, List.set_cons_succ, i64_w, i32_w]
                rfl
              refine one_ (i := 2) (N := some 61) #[true, true, true, true, false, false, false, false, false, false, false, false, false, false, false, false] rfl rfl (one_of HT_.out (by kernel_rfl)) (by decide) (fun K hK => ?_)
              refine goes_ Try.func36 (by kernel_rfl) rfl #[.agg #[.int .i64 t566, .int .i64 t567, .int .i64 t568, .int .i64 t569, .int .i64 t570], .int .i64 (wrap64 (t555 + t561))] (by rfl) rfl rfl (by (try simp only [List.map_toArray, List.map_cons, List.map_nil]); first | done | rfl | (simp only [List.length_drop, List.length_take]; rfl)) ?_
              with_reducible refine (step_On.calls k1 t566 t567 t568 t569 t570 (wrap64 (t555 + t561)) t572 t573 t574 t575 t576 _ A39.out).mono ?_
              rintro e w66 ⟨rfl, hb⟩
              refine ⟨_, rfl, ?_⟩
              have n0_ := Aside0.mk (Kd.R_below (by (with_reducible repeat (first | apply Kd.R_alloc | apply Kd.R_drewN | apply Kd.R_drew)); exact HO_10.out) hb)
              have n1_ := Aside0.mk (blk_below (g := gb560) (o := .cells #[.int .i64 t554, .int .i64 t555, .int .i64 t556, .int .i64 t557, .int .i64 t558] 62 (0, 0)) (by (with_reducible repeat (first | refine blk_drewN ?_ _ | refine blk_drew ?_ | refine blk_alloc ?_ _)); exact BK560.out) hb)
              have n2_ := Aside0.mk (blk_below (g := gb571) (o := .cells #[.int .i64 t566, .int .i64 t567, .int .i64 t568, .int .i64 t569, .int .i64 t570] 62 (0, 0)) (by (with_reducible repeat (first | refine blk_drewN ?_ _ | refine blk_drew ?_ | refine blk_alloc ?_ _)); exact BK571.out) hb)
              have n3_ := Aside0.mk (below_step (by repeat (first | (with_reducible first | exact HB.out | apply below_alloc | apply pw_below_drewN | apply below_drew1 | refine below_set ?_ GE560.out | refine below_set ?_ GE571.out) | exact HB.out)) hb)
              clear HO_10
              clear BK560
              clear BK571
              clear HB
              have HO_10 := n0_
              have BK560 := n1_
              have BK571 := n2_
              have HB := n3_
              clear n0_ n1_ n2_ n3_
              (try clear hb)
              (try clear hb2)
              (try clear hk)
              (try clear hi)
              refine hK.out _ _ ⟨(blk_cell BK571.out 0).trans rfl, (blk_cell BK571.out 1).trans rfl, (blk_cell BK571.out 2).trans rfl, (blk_cell BK571.out 3).trans rfl, (blk_cell BK571.out 4).trans rfl⟩ (fun hHeld => ?_)
              clear hK K
              refine norm_ (a' := ?_) ?_ ?_
              rotate_left
              · show Act.put _ (some 61) _ = _
                simp only [Act.put, List.setIfInBounds_toArray, List.set_cons_zero, List.set_cons_succ, i64_w, i32_w]
                rfl
              refine pure_ (i := 4) (N := some 63) (v := ?_) (a' := ?_) #[true, true, true, true, true, false, false, false, false, false, false, false, false, false, false, false] rfl rfl (any_of HT_.out (by kernel_rfl)) (fun _ _ _ h => h) (Or.inl ⟨by rfl, ?_⟩) ?_ ?_
              rotate_left
              · intro w'
                go_simp
                with_reducible rfl
              rotate_left
              · simp only [Act.put, List.setIfInBounds_toArray, List.set_cons_zero, List.set_cons_succ, i64_w, i32_w]
                rfl
              refine pure_ (i := 5) (N := some 64) (v := ?_) (a' := ?_) #[true, true, true, true, true, true, false, false, false, false, false, false, false, false, false, false] rfl rfl (any_of HT_.out (by kernel_rfl)) (fun _ _ _ h => h) (Or.inl ⟨by rfl, ?_⟩) ?_ ?_
              rotate_left
              · intro w'
                go_simp
                with_reducible rfl
              rotate_left
              · simp only [Act.put, List.setIfInBounds_toArray, List.set_cons_zero, List.set_cons_succ, i64_w, i32_w]
                rfl
              refine pure_ (i := 6) (N := some 65) (v := undef) (a' := ?_) #[true, true, true, true, true, true, true, false, false, false, false, false, false, false, false, false] rfl rfl (any_of HT_.out (by kernel_rfl)) (fun _ _ _ h => h) (Or.inr ⟨by rfl, rfl⟩) ?_ ?_
              rotate_left
              · simp only [Act.put, List.setIfInBounds_toArray, List.set_cons_zero, List.set_cons_succ, i64_w, i32_w]
                rfl
              refine pure_ (i := 7) (N := some 66) (v := undef) (a' := ?_) #[true, true, true, true, true, true, true, true, false, false, false, false, false, false, false, false] rfl rfl (any_of HT_.out (by kernel_rfl)) (fun _ _ _ h => h) (Or.inr ⟨by rfl, rfl⟩) ?_ ?_
              rotate_left
              · simp only [Act.put, List.setIfInBounds_toArray, List.set_cons_zero, List.set_cons_succ, i64_w, i32_w]
                rfl
              refine pure_ (i := 8) (N := some 67) (v := undef) (a' := ?_) #[true, true, true, true, true, true, true, true, true, false, false, false, false, false, false, false] rfl rfl (any_of HT_.out (by kernel_rfl)) (fun _ _ _ h => h) (Or.inr ⟨by rfl, rfl⟩) ?_ ?_
              rotate_left
              · simp only [Act.put, List.setIfInBounds_toArray, List.set_cons_zero, List.set_cons_succ, i64_w, i32_w]
                rfl
              refine pure_ (i := 9) (N := some 68) (v := undef) (a' := ?_) #[true, true, true, true, true, true, true, true, true, true, false, false, false, false, false, false] rfl rfl (any_of HT_.out (by kernel_rfl)) (fun _ _ _ h => h) (Or.inr ⟨by rfl, rfl⟩) ?_ ?_
              rotate_left
              · simp only [Act.put, List.setIfInBounds_toArray, List.set_cons_zero, List.set_cons_succ, i64_w, i32_w]
                rfl
              refine pure_ (i := 10) (N := some 69) (v := undef) (a' := ?_) #[true, true, true, true, true, true, true, true, true, true, true, false, false, false, false, false] rfl rfl (any_of HT_.out (by kernel_rfl)) (fun _ _ _ h => h) (Or.inr ⟨by rfl, rfl⟩) ?_ ?_
              rotate_left
              · simp only [Act.put, List.setIfInBounds_toArray, List.set_cons_zero, List.set_cons_succ, i64_w, i32_w]
                rfl
              refine pure_ (i := 11) (N := some 70) (v := undef) (a' := ?_) #[true, true, true, true, true, true, true, true, true, true, true, true, false, false, false, false] rfl rfl (any_of HT_.out (by kernel_rfl)) (fun _ _ _ h => h) (Or.inr ⟨by rfl, rfl⟩) ?_ ?_
              rotate_left
              · simp only [Act.put, List.setIfInBounds_toArray, List.set_cons_zero, List.set_cons_succ, i64_w, i32_w]
                rfl
              refine pure_ (i := 12) (N := some 71) (v := undef) (a' := ?_) #[true, true, true, true, true, true, true, true, true, true, true, true, true, false, false, false] rfl rfl (any_of HT_.out (by kernel_rfl)) (fun _ _ _ h => h) (Or.inr ⟨by rfl, rfl⟩) ?_ ?_
              rotate_left
              · simp only [Act.put, List.setIfInBounds_toArray, List.set_cons_zero, List.set_cons_succ, i64_w, i32_w]
                rfl
              refine pure_ (i := 13) (N := some 72) (v := undef) (a' := ?_) #[true, true, true, true, true, true, true, true, true, true, true, true, true, true, false, false] rfl rfl (any_of HT_.out (by kernel_rfl)) (fun _ _ _ h => h) (Or.inr ⟨by rfl, rfl⟩) ?_ ?_
              rotate_left
              · simp only [Act.put, List.setIfInBounds_toArray, List.set_cons_zero, List.set_cons_succ, i64_w, i32_w]
                rfl
              refine pure_ (i := 14) (N := some 73) (v := ?_) (a' := ?_) #[true, true, true, true, true, true, true, true, true, true, true, true, true, true, true, false] rfl rfl (any_of HT_.out (by kernel_rfl)) (fun _ _ _ h => h) (Or.inl ⟨by rfl, ?_⟩) ?_ ?_
              rotate_left
              · intro w'
                go_simp
                with_reducible rfl
              rotate_left
              · simp only [Act.put, List.setIfInBounds_toArray, List.set_cons_zero, List.set_cons_succ, i64_w, i32_w]
                rfl
              refine pure_ (i := 15) (N := some 6) (v := ?_) (a' := ?_) #[true, true, true, true, true, true, true, true, true, true, true, true, true, true, true, true] rfl rfl (any_of HT_.out (by kernel_rfl)) (fun _ _ _ h => h) (Or.inl ⟨by rfl, ?_⟩) ?_ ?_
              rotate_left
              · intro w'
                go_simp
                with_reducible rfl
              rotate_left
              · simp only [Act.put, List.setIfInBounds_toArray, List.set_cons_zero, List.set_cons_succ, i64_w, i32_w]
                rfl
              refine done_ (done_of HT_.out (by kernel_rfl)) ?_
              try go_wp2
              go_ret
              exact ⟨by first | rfl | (simp [errW_none, errW_some] <;> rfl) | (simp [*, errW_none, errW_some] <;> rfl), by repeat (first | (with_reducible first | exact HB.out | apply below_alloc | apply pw_below_drewN | apply below_drew1 | refine below_set ?_ GE560.out | refine below_set ?_ GE571.out) | exact HB.out)⟩
    · rw [if_neg c8] at H
      have c8b0 : (t559 == 0) = false := beq_eq_false_iff_ne.mpr c8
      have c8b1 : (t559 != 0) = true := bne_iff_ne.mpr c8
      obtain rfl := Option.some.inj H
      go_enter Try.func11, Try.ntmps11
      go_wp2_with (first | ((with_reducible refine gate_callee (f := 31) rfl ?_); refine goesL_ (some 15) rfl rfl Try.func31 (by kernel_rfl) rfl #[] rfl (by (try simp only [List.map_toArray, List.map_cons, List.map_nil]); first | done | rfl | (simp only [List.length_drop, List.length_take]; rfl)) ?_; (with_reducible refine (mootkeep4_stepped.calls k  true _ A4.out).mono ?_); rintro e w67 ⟨rfl, hb⟩; refine ⟨_, rfl, ?_⟩; have n0_ := Aside0.mk (below_step (by repeat (first | (with_reducible first | exact HB.out | apply below_alloc | apply pw_below_drewN | apply below_drew1) | exact HB.out)) hb); clear HB; have HB := n0_; clear n0_; (try clear hb); (try clear hb2); (try clear hk); (try clear hi)) | ((with_reducible refine gate_callee (f := 32) rfl ?_); refine goesL_ (some 19) rfl rfl Try.func32 (by kernel_rfl) rfl #[.slice A0 l0.length c0] rfl (by (try simp only [List.map_toArray, List.map_cons, List.map_nil]); first | done | rfl | (simp only [List.length_drop, List.length_take]; rfl)) ?_; (with_reducible refine (mootkeep4_Procedure.calls k _ _ l0 t551 _ ?side1 ?side2 A6.out).mono ?_); (case side1 => repeat (first | exact (Kd.C_below HR0.out HB.out) | (with_reducible refine Kd.C_alloc ?_ _) | (with_reducible refine Kd.C_drewN ?_ _) | (with_reducible refine Kd.C_drew ?_))); (case side2 => exact HC0.out); rintro e w68 ⟨v552, rfl, ho0, hb⟩; refine ⟨_, rfl, ?_⟩; have n0_ := Aside0.mk (Kd.R_lower ho0 (below_size (by repeat (first | (with_reducible first | exact HB.out | apply below_alloc | apply pw_below_drewN | apply below_drew1) | exact HB.out)))); have n1_ := Aside0.mk (below_step (by repeat (first | (with_reducible first | exact HB.out | apply below_alloc | apply pw_below_drewN | apply below_drew1) | exact HB.out)) hb); clear HB; have HO553 := n0_; have HB := n1_; clear n0_ n1_; (try clear hb); (try clear hb2); (try clear hk); (try clear hi); (try clear ho0); obtain ⟨Ao69, co69, eo69⟩ := Kd.R_slice HO553.out; subst eo69) | ((with_reducible refine gate_callee (f := 33) rfl ?_); refine goesL_ (some 20) rfl rfl Try.func33 (by kernel_rfl) rfl #[.slice Ao69 t551.length co69] rfl (by (try simp only [List.map_toArray, List.map_cons, List.map_nil]); first | done | rfl | (simp only [List.length_drop, List.length_take]; rfl)) ?_; (with_reducible refine (step_Play.calls k _ _ t551 t554 t555 t556 t557 t558 t559 _ ?side1 ?side2 A7.out).mono ?_); (case side1 => repeat (first | exact (Kd.R_reads' HO553.out).2.2 | (with_reducible refine Kd.C_alloc ?_ _) | (with_reducible refine Kd.C_drewN ?_ _) | (with_reducible refine Kd.C_drew ?_))); (case side2 => exact (Kd.R_reads' HO553.out).2.1); rintro e w70 ⟨rfl, hb⟩; refine ⟨_, rfl, ?_⟩; have n0_ := Aside0.mk (Kd.R_below (by (with_reducible repeat (first | apply Kd.R_alloc | apply Kd.R_drewN | apply Kd.R_drew)); exact HO553.out) hb); have n1_ := Aside0.mk (below_step (by repeat (first | (with_reducible first | exact HB.out | apply below_alloc | apply pw_below_drewN | apply below_drew1) | exact HB.out)) hb); clear HO553; clear HB; have HO553 := n0_; have HB := n1_; clear n0_ n1_; (try clear hb); (try clear hb2); (try clear hk); (try clear hi)) | ((with_reducible refine gate_dst (N := 7) rfl ?_); (try (refine gate_guard (by rfl) ?_; dsimp only)); refine box_event ?hg (N := 7) ?hd (cs := #[.int .i64 0, .int .i64 0, .int .i64 0, .int .i64 0, .int .i64 0]) (t := 62) ?hr ?_; (case hd => rfl); (case hg => rfl); (case hr => first | (go_simp; done) | (go_simp; rfl)); intro gb560 hg w71 hbox hb; have n0_ := Aside0.mk (Kd.R_below (by (with_reducible repeat (first | apply Kd.R_alloc | apply Kd.R_drewN | apply Kd.R_drew)); exact HO553.out) hb); have n1_ := Aside0.mk (below_step (by repeat (first | (with_reducible first | exact HB.out | apply below_alloc | apply pw_below_drewN | apply below_drew1) | exact HB.out)) hb); have n2_ := Aside0.mk (hbox); have n3_ := Aside0.mk ((by rw [hg]; exact (below_size (by repeat (first | (with_reducible first | exact HB.out | apply below_alloc | apply pw_below_drewN | apply below_drew1) | exact HB.out))) : w.heap.size ≤ gb560)); have n4_ := Aside0.mk ((by rw [hg]; exact (below_size (by repeat (first | (with_reducible first | exact HB.out | apply below_alloc | apply pw_below_drewN | apply below_drew1) | exact HB.out))) : w.heap.size ≤ gb560)); clear HO553; clear HB; have HO553 := n0_; have HB := n1_; have BK560 := n2_; have GW560 := n3_; have GE560 := n4_; clear n0_ n1_ n2_ n3_ n4_; clear hb hbox hg; have hcz72_0 : w71.cell? ⟨gb560, 0, none⟩ = some (.int .i64 0) := (blk_cell BK560.out 0).trans rfl; have hcz72_1 : w71.cell? ⟨gb560, 1, none⟩ = some (.int .i64 0) := (blk_cell BK560.out 1).trans rfl; have hcz72_2 : w71.cell? ⟨gb560, 2, none⟩ = some (.int .i64 0) := (blk_cell BK560.out 2).trans rfl; have hcz72_3 : w71.cell? ⟨gb560, 3, none⟩ = some (.int .i64 0) := (blk_cell BK560.out 3).trans rfl; have hcz72_4 : w71.cell? ⟨gb560, 4, none⟩ = some (.int .i64 0) := (blk_cell BK560.out 4).trans rfl; have hfz72_0 := blk_frozen BK560.out 0; have hfz72_1 := blk_frozen BK560.out 1; have hfz72_2 := blk_frozen BK560.out 2; have hfz72_3 := blk_frozen BK560.out 3; have hfz72_4 := blk_frozen BK560.out 4))
      go_ret
      exact ⟨by first | rfl | (simp [errW_none, errW_some] <;> rfl) | (simp [*, errW_none, errW_some] <;> rfl), by repeat (first | (with_reducible first | exact HB.out | apply below_alloc | apply pw_below_drewN | apply below_drew1 | refine below_set ?_ GE560.out) | exact HB.out)⟩
  · replace c5 := Bool.eq_false_iff.mpr c5
    subst c5
    have H1 : (some false) = some r := by rw [if_neg (show ¬ (false = true) by decide)] at H; exact H
    clear H
    have H := H1
    clear H1
    obtain rfl := Option.some.inj H
    go_enter Try.func11, Try.ntmps11
    go_wp2_with (first | ((with_reducible refine gate_callee (f := 31) rfl ?_); refine goesL_ (some 15) rfl rfl Try.func31 (by kernel_rfl) rfl #[] rfl (by (try simp only [List.map_toArray, List.map_cons, List.map_nil]); first | done | rfl | (simp only [List.length_drop, List.length_take]; rfl)) ?_; (with_reducible refine (mootkeep4_stepped.calls k  false _ A4.out).mono ?_); rintro e w73 ⟨rfl, hb⟩; refine ⟨_, rfl, ?_⟩; have n0_ := Aside0.mk (below_step (by repeat (first | (with_reducible first | exact HB.out | apply below_alloc | apply pw_below_drewN | apply below_drew1) | exact HB.out)) hb); clear HB; have HB := n0_; clear n0_; (try clear hb); (try clear hb2); (try clear hk); (try clear hi)))
    go_ret
    exact ⟨by first | rfl | (simp [errW_none, errW_some] <;> rfl) | (simp [*, errW_none, errW_some] <;> rfl), by repeat (first | (with_reducible first | exact HB.out | apply below_alloc | apply pw_below_drewN | apply below_drew1) | exact HB.out)⟩

/-- THE ONE PURE STATEMENT of mootkeep4_StepCan: yours. -/
def mootkeep4_StepCan.Pure : Prop := ∀ (l0 : List Int) (a1 : Int) (a2 : Int), l0.length ≤ maxLen → l0.length * 8 ≤ 140737488351232 → (∀ x ∈ l0, (Lit.int .i64 x).wf = true) → (Lit.int .i64 a1).wf = true → (Lit.int .i64 a2).wf = true → ∃ k, mootkeep4_StepCan.f k l0 a1 a2 = some true
theorem mootkeep4_StepCan.walk (P : mootkeep4_StepCan.Pure) (a0 : Option Addr) (len0 cap0 : Nat) (z0 : List Int) (a1 : Int) (a2 : Int) (w : World) (w0 : (a0 = none ∧ len0 = 0 ∧ cap0 = 0 ∧ z0 = []) ∨ ∃ x, a0 = some x ∧ len0 ≤ cap0 ∧ cap0 ≤ maxLen ∧ z0.length = cap0 ∧ (∀ i, i < z0.length → w.cell? (x.add i) = some (.int .i64 (z0.getD i 0))) ∧ ∀ n ∈ z0, (Lit.int .i64 n).wf = true) (y0 : len0 * 8 ≤ 140737488351232) (w1 : (Lit.int .i64 a1).wf = true) (w2 : (Lit.int .i64 a2).wf = true) :
    Calls Try.prog 11 #[.slice a0 len0 cap0, .int .i64 a1, .int .i64 a2] w fun e w' => e = .returned (.bool true) ∧ Below w.heap.size w w' := by
  obtain ⟨l0, rfl, hr0, hm0, hw0, hc0⟩ := ReadsInt.ofRowC w0
  obtain ⟨k, h⟩ := P l0 a1 a2 hm0 y0 hw0 w1 w2
  refine (mootkeep4_StepCan.calls k _ _ l0 a1 a2 true w (Kd.C_of_reads (d := (0 : Int)) (h1 := fun _ => rfl) hr0) hc0 h).mono ?_
  rintro e w' ⟨rfl, hd⟩
  exact ⟨rfl, hd⟩

end Go.Proofs.Ytghnbiknghelpaa.PAll
