-- Printed by this session's wip/myprint.py.
import Derived.Test.YtbcaaocogphdeaaPCapx0
import Derived.Test.YtbcaaocogphdeaaPCapx25
import Derived.Test.YtbcaaocogphdeaaPCapx39
import Derived.Test.YtbcaaocogphdeaaPCapx41
import Derived.Test.YtbcaaocogphdeaaPCapx43
import Derived.Test.YtbcaaocogphdeaaPCapx45
namespace Go.Proofs.Ytbcaaocogphdeaa.PCap
open Go.RowKit Go.Proofs.YtbcaaocogphdeaaW.PrintWords Go.Proofs.YtbcaaocogphdeaaW.PrintLast Go.Proofs.YtbcaaocogphdeaaW.PrintMore
attribute [local go_sem] max2_int min2_int max_two min_two max_three min_three max_four min_four   -- for this text's walks alone
set_option linter.unusedVariables false
set_option linter.unusedSimpArgs false

/-! ### mootkeep4_CapExact: function 10 -/
mutual
def mootkeep4_CapExact.j0 : Nat → Int → List (S59) → List Int → Int → Bool → Option (Bool)
 | 0, _, _, _, _, _ => none
 | k + 1, x1, x5, x6, x8, x42 => if x42 = true then (some false) else (mootkeep4_CapExact.l0 k x1 x5 x8 0 x6 (x6.length : Int) 0)
def mootkeep4_CapExact.l0 : Nat → Int → List (S59) → Int → Int → List Int → Int → Int → Option (Bool)
 | 0, _, _, _, _, _, _, _ => none
 | k + 1, x1, x5, x8, x10, x43, x44, x45 => if x45 < x44 then (if 0 ≤ x45 then (if x45 < (x43.length : Int) then (if (rd x43 x45) < 0 then (some false) else (if x45 < (x5.length : Int) then (if (rd x43 x45) > ((rd_T59 x5 x45).f4) then (some false) else (mootkeep4_CapExact.l0 k x1 x5 x8 (wrap64 (x10 + (rd x43 x45))) x43 x44 (wrap64 (x45 + 1)))) else (none))) else (none)) else (none)) else (some (x10 == (mn x1 x8)))
end
def mootkeep4_CapExact.f (k : Nat) (l0 : List Int) (a1 : Int) : Option (Bool) := (mootkeep4_capped.f k).bind fun t369 => (if t369 = true then ((mootkeep4_Claims.f k l0).bind fun t370 => ((mootmake_Below.f a1 6000).bind fun t373 => ((cap_Budget.f k t370 t373).bind fun bt374 => ((cap_Need.f k t370).bind fun bt378 => (if bt374.2 = 0 then (if bt378.2 = 0 then (mootkeep4_CapExact.j0 k t373 t370 bt374.1 bt378.1 ((bt374.1.length : Int) != (t370.length : Int))) else (mootkeep4_CapExact.j0 k t373 t370 bt374.1 bt378.1 true)) else (mootkeep4_CapExact.j0 k t373 t370 bt374.1 bt378.1 true)))))) else (some false))
theorem mootkeep4_CapExact.mono_l : ∀ k, (∀ y0 y1 y2 y3 y4, LeO (mootkeep4_CapExact.j0 k y0 y1 y2 y3 y4) (mootkeep4_CapExact.j0 (k + 1) y0 y1 y2 y3 y4)) ∧ (∀ y0 y1 y2 y3 y4 y5 y6, LeO (mootkeep4_CapExact.l0 k y0 y1 y2 y3 y4 y5 y6) (mootkeep4_CapExact.l0 (k + 1) y0 y1 y2 y3 y4 y5 y6))
 | 0 => ⟨fun _ _ _ _ _ r h => by simp [mootkeep4_CapExact.j0] at h, fun _ _ _ _ _ _ _ r h => by simp [mootkeep4_CapExact.l0] at h⟩
 | k + 1 => by
  obtain ⟨ih0, ih1⟩ := mootkeep4_CapExact.mono_l k
  refine ⟨?_, ?_⟩
  ·intro y0 y1 y2 y3 y4
   unfold mootkeep4_CapExact.j0
   repeat' first
   | (with_reducible exact ih0 _ _ _ _ _)
   | (with_reducible exact ih1 _ _ _ _ _ _ _)
   | (with_reducible exact cap_Budget.mono _ _ _)
   | (with_reducible exact cap_Need.mono _ _)
   | (with_reducible exact mootkeep4_Claims.mono _ _)
   | (with_reducible exact mootkeep4_capped.mono _)
   | (with_reducible exact LeO.refl _)
   | (with_reducible exact LeO.none _)
   | (with_reducible refine LeO.ite ?_ ?_)
   | (with_reducible refine LeO.bind ?_ (fun _ => ?_))
   | exact ih0 _ _ _ _ _
   | exact ih1 _ _ _ _ _ _ _
   | exact cap_Budget.mono _ _ _
   | exact cap_Need.mono _ _
   | exact mootkeep4_Claims.mono _ _
   | exact mootkeep4_capped.mono _
   | exact LeO.none _
   | refine LeO.ite ?_ ?_
   | refine LeO.bind ?_ (fun _ => ?_)
  ·intro y0 y1 y2 y3 y4 y5 y6
   unfold mootkeep4_CapExact.l0
   repeat' first
   | (with_reducible exact ih0 _ _ _ _ _)
   | (with_reducible exact ih1 _ _ _ _ _ _ _)
   | (with_reducible exact cap_Budget.mono _ _ _)
   | (with_reducible exact cap_Need.mono _ _)
   | (with_reducible exact mootkeep4_Claims.mono _ _)
   | (with_reducible exact mootkeep4_capped.mono _)
   | (with_reducible exact LeO.refl _)
   | (with_reducible exact LeO.none _)
   | (with_reducible refine LeO.ite ?_ ?_)
   | (with_reducible refine LeO.bind ?_ (fun _ => ?_))
   | exact ih0 _ _ _ _ _
   | exact ih1 _ _ _ _ _ _ _
   | exact cap_Budget.mono _ _ _
   | exact cap_Need.mono _ _
   | exact mootkeep4_Claims.mono _ _
   | exact mootkeep4_capped.mono _
   | exact LeO.none _
   | refine LeO.ite ?_ ?_
   | refine LeO.bind ?_ (fun _ => ?_)
theorem mootkeep4_CapExact.mono : ∀ a0 a1 k, LeO (mootkeep4_CapExact.f k a0 a1) (mootkeep4_CapExact.f (k + 1) a0 a1) := by
 intro a0 a1 k
 obtain ⟨ih0, ih1⟩ := mootkeep4_CapExact.mono_l k
 unfold mootkeep4_CapExact.f
 repeat' first
  | (with_reducible exact ih0 _ _ _ _ _)
  | (with_reducible exact ih1 _ _ _ _ _ _ _)
  | (with_reducible exact cap_Budget.mono _ _ _)
  | (with_reducible exact cap_Need.mono _ _)
  | (with_reducible exact mootkeep4_Claims.mono _ _)
  | (with_reducible exact mootkeep4_capped.mono _)
  | (with_reducible exact LeO.refl _)
  | (with_reducible exact LeO.none _)
  | (with_reducible refine LeO.ite ?_ ?_)
  | (with_reducible refine LeO.bind ?_ (fun _ => ?_))
  | exact ih0 _ _ _ _ _
  | exact ih1 _ _ _ _ _ _ _
  | exact cap_Budget.mono _ _ _
  | exact cap_Need.mono _ _
  | exact mootkeep4_Claims.mono _ _
  | exact mootkeep4_capped.mono _
  | exact LeO.none _
  | refine LeO.ite ?_ ?_
  | refine LeO.bind ?_ (fun _ => ?_)
set_option maxHeartbeats 8000000 in
set_option maxRecDepth 100000 in
theorem mootkeep4_CapExact.calls (k : Nat) (A0 : Option Addr) (c0 : Nat) (l0 : List Int) (a1 : Int) (r : Bool) (w : World) (hr0 : Kd.C (Kd.int .i64) w A0 l0.length l0) (hc0 : l0.length ≤ c0) (h : mootkeep4_CapExact.f k l0 a1 = some r) :
 Calls Try.prog 10 #[.slice A0 l0.length c0, .int .i64 a1] w fun e w' => e = .returned (.bool r) ∧ Below w.heap.size w w' := by
 have HR0 := Aside0.mk hr0
 have HC0 := Aside0.mk hc0
 clear hr0 hc0
 have HB := Aside0.mk (Below.refl w.heap.size w)
 have H : ((mootkeep4_capped.f k).bind fun t369 => (if t369 = true then ((mootkeep4_Claims.f k l0).bind fun t370 => ((mootmake_Below.f a1 6000).bind fun t373 => ((cap_Budget.f k t370 t373).bind fun bt374 => ((cap_Need.f k t370).bind fun bt378 => (if bt374.2 = 0 then (if bt378.2 = 0 then (mootkeep4_CapExact.j0 k t373 t370 bt374.1 bt378.1 ((bt374.1.length : Int) != (t370.length : Int))) else (mootkeep4_CapExact.j0 k t373 t370 bt374.1 bt378.1 true)) else (mootkeep4_CapExact.j0 k t373 t370 bt374.1 bt378.1 true)))))) else (some false))) = some r := h
 clear h
 replace H := Option.bind_eq_some_iff.mp H
 obtain ⟨t369, A30, H⟩ := H
 replace H : (if t369 = true then ((mootkeep4_Claims.f k l0).bind fun t370 => ((mootmake_Below.f a1 6000).bind fun t373 => ((cap_Budget.f k t370 t373).bind fun bt374 => ((cap_Need.f k t370).bind fun bt378 => (if bt374.2 = 0 then (if bt378.2 = 0 then (mootkeep4_CapExact.j0 k t373 t370 bt374.1 bt378.1 ((bt374.1.length : Int) != (t370.length : Int))) else (mootkeep4_CapExact.j0 k t373 t370 bt374.1 bt378.1 true)) else (mootkeep4_CapExact.j0 k t373 t370 bt374.1 bt378.1 true)))))) else (some false)) = some r := H
 have A3 := Aside0.mk A30
 clear A30
 by_cases c4 : t369 = true
 ·subst c4
  have H1 : ((mootkeep4_Claims.f k l0).bind fun t370 => ((mootmake_Below.f a1 6000).bind fun t373 => ((cap_Budget.f k t370 t373).bind fun bt374 => ((cap_Need.f k t370).bind fun bt378 => (if bt374.2 = 0 then (if bt378.2 = 0 then (mootkeep4_CapExact.j0 k t373 t370 bt374.1 bt378.1 ((bt374.1.length : Int) != (t370.length : Int))) else (mootkeep4_CapExact.j0 k t373 t370 bt374.1 bt378.1 true)) else (mootkeep4_CapExact.j0 k t373 t370 bt374.1 bt378.1 true)))))) = some r := by rw [if_pos rfl] at H; exact H
  clear H
  have H := H1
  clear H1
  replace H := Option.bind_eq_some_iff.mp H
  obtain ⟨t370, A50, H⟩ := H
  replace H : ((mootmake_Below.f a1 6000).bind fun t373 => ((cap_Budget.f k t370 t373).bind fun bt374 => ((cap_Need.f k t370).bind fun bt378 => (if bt374.2 = 0 then (if bt378.2 = 0 then (mootkeep4_CapExact.j0 k t373 t370 bt374.1 bt378.1 ((bt374.1.length : Int) != (t370.length : Int))) else (mootkeep4_CapExact.j0 k t373 t370 bt374.1 bt378.1 true)) else (mootkeep4_CapExact.j0 k t373 t370 bt374.1 bt378.1 true))))) = some r := H
  have A5 := Aside0.mk A50
  clear A50
  replace H := Option.bind_eq_some_iff.mp H
  obtain ⟨t373, A60, H⟩ := H
  replace H : ((cap_Budget.f k t370 t373).bind fun bt374 => ((cap_Need.f k t370).bind fun bt378 => (if bt374.2 = 0 then (if bt378.2 = 0 then (mootkeep4_CapExact.j0 k t373 t370 bt374.1 bt378.1 ((bt374.1.length : Int) != (t370.length : Int))) else (mootkeep4_CapExact.j0 k t373 t370 bt374.1 bt378.1 true)) else (mootkeep4_CapExact.j0 k t373 t370 bt374.1 bt378.1 true)))) = some r := H
  have A6 := Aside0.mk A60
  clear A60
  replace H := Option.bind_eq_some_iff.mp H
  obtain ⟨⟨t374, t375⟩, A70, H⟩ := H
  replace H : ((cap_Need.f k t370).bind fun bt378 => (if t375 = 0 then (if bt378.2 = 0 then (mootkeep4_CapExact.j0 k t373 t370 t374 bt378.1 ((t374.length : Int) != (t370.length : Int))) else (mootkeep4_CapExact.j0 k t373 t370 t374 bt378.1 true)) else (mootkeep4_CapExact.j0 k t373 t370 t374 bt378.1 true))) = some r := H
  have A7 := Aside0.mk A70
  clear A70
  replace H := Option.bind_eq_some_iff.mp H
  obtain ⟨⟨t378, t379⟩, A80, H⟩ := H
  replace H : (if t375 = 0 then (if t379 = 0 then (mootkeep4_CapExact.j0 k t373 t370 t374 t378 ((t374.length : Int) != (t370.length : Int))) else (mootkeep4_CapExact.j0 k t373 t370 t374 t378 true)) else (mootkeep4_CapExact.j0 k t373 t370 t374 t378 true)) = some r := H
  have A8 := Aside0.mk A80
  clear A80
  have HC9 := Aside0.mk H
  clear H
  go_enter Try.func10, Try.ntmps10
  go_upto_region 7 with (first | ((with_reducible refine gate_callee (f := 31) rfl ?_); refine goesL_ (some 13) rfl rfl Try.func31 (by kernel_rfl) rfl #[] rfl (by (try simp only [List.map_toArray, List.map_cons, List.map_nil]); first | done | rfl | (simp only [List.length_drop, List.length_take]; rfl)) ?_; (with_reducible refine (mootkeep4_capped.calls k  true _ A3.out).mono ?_); rintro e w10 ⟨rfl, hb⟩; refine ⟨_, rfl, ?_⟩; have n0_ := Aside0.mk (below_step (by repeat (first | (with_reducible first | exact HB.out | apply below_alloc | apply pw_below_drewN | apply below_drew1) | exact HB.out)) hb); clear HB; have HB := n0_; clear n0_; (try clear hb); (try clear hb2); (try clear hk); (try clear hi)) | ((with_reducible refine gate_callee (f := 32) rfl ?_); refine goesL_ (some 16) rfl rfl Try.func32 (by kernel_rfl) rfl #[.slice A0 l0.length c0] rfl (by (try simp only [List.map_toArray, List.map_cons, List.map_nil]); first | done | rfl | (simp only [List.length_drop, List.length_take]; rfl)) ?_; (with_reducible refine (mootkeep4_Claims.calls k _ _ l0 t370 _ ?side1 ?side2 A5.out).mono ?_); (case side1 => repeat (first | exact (Kd.C_below HR0.out HB.out) | (with_reducible refine Kd.C_alloc ?_ _) | (with_reducible refine Kd.C_drewN ?_ _) | (with_reducible refine Kd.C_drew ?_))); (case side2 => exact HC0.out); rintro e w11 ⟨v371, rfl, ho0, hb⟩; refine ⟨_, rfl, ?_⟩; have n0_ := Aside0.mk (Kd.R_lower ho0 (below_size (by repeat (first | (with_reducible first | exact HB.out | apply below_alloc | apply pw_below_drewN | apply below_drew1) | exact HB.out)))); have n1_ := Aside0.mk (below_step (by repeat (first | (with_reducible first | exact HB.out | apply below_alloc | apply pw_below_drewN | apply below_drew1) | exact HB.out)) hb); clear HB; have HO372 := n0_; have HB := n1_; clear n0_ n1_; (try clear hb); (try clear hb2); (try clear hk); (try clear hi); (try clear ho0)) | ((with_reducible refine gate_callee (f := 26) rfl ?_); refine goesL_ (some 18) rfl rfl Try.func26 (by kernel_rfl) rfl #[.int .i64 a1, .int .i64 6000] rfl (by (try simp only [List.map_toArray, List.map_cons, List.map_nil]); first | done | rfl | (simp only [List.length_drop, List.length_take]; rfl)) ?_; (with_reducible refine (mootmake_Below.calls a1 6000 t373 _ A6.out).mono ?_); rintro e w' ⟨rfl, ⟨nd, rfl⟩⟩; refine ⟨_, rfl, ?_⟩; obtain ⟨Ao12, co12, eo12⟩ := Kd.R_slice HO372.out; subst eo12) | ((with_reducible refine gate_callee (f := 33) rfl ?_); refine goesL_ (some 22) rfl rfl Try.func33 (by kernel_rfl) rfl #[.slice Ao12 t370.length co12, .int .i64 t373] rfl (by (try simp only [List.map_toArray, List.map_cons, List.map_nil]); first | done | rfl | (simp only [List.length_drop, List.length_take]; rfl)) ?_; (with_reducible refine (cap_Budget.calls k _ _ t370 t373 t374 t375 _ ?side1 ?side2 A7.out).mono ?_); (case side1 => repeat (first | exact (Kd.R_reads' HO372.out).2.2 | (with_reducible refine Kd.C_alloc ?_ _) | (with_reducible refine Kd.C_drewN ?_ _) | (with_reducible refine Kd.C_drew ?_))); (case side2 => exact (Kd.R_reads' HO372.out).2.1); rintro e w13 ⟨v376, rfl, ho0, hb⟩; refine ⟨_, rfl, ?_⟩; have n0_ := Aside0.mk (Kd.R_below (by (with_reducible repeat (first | apply Kd.R_alloc | apply Kd.R_drewN | apply Kd.R_drew)); exact HO372.out) hb); have n1_ := Aside0.mk (Kd.R_lower ho0 (below_size (by repeat (first | (with_reducible first | exact HB.out | apply below_alloc | apply pw_below_drewN | apply below_drew1) | exact HB.out)))); have n2_ := Aside0.mk (below_step (by repeat (first | (with_reducible first | exact HB.out | apply below_alloc | apply pw_below_drewN | apply below_drew1) | exact HB.out)) hb); clear HO372; clear HB; have HO372 := n0_; have HO377 := n1_; have HB := n2_; clear n0_ n1_ n2_; (try clear hb); (try clear hb2); (try clear hk); (try clear hi); (try clear ho0)) | ((with_reducible refine gate_callee (f := 34) rfl ?_); refine goesL_ (some 27) rfl rfl Try.func34 (by kernel_rfl) rfl #[.slice Ao12 t370.length co12] rfl (by (try simp only [List.map_toArray, List.map_cons, List.map_nil]); first | done | rfl | (simp only [List.length_drop, List.length_take]; rfl)) ?_; (with_reducible refine (cap_Need.calls k _ _ t370 t378 t379 _ ?side1 ?side2 A8.out).mono ?_); (case side1 => repeat (first | exact (Kd.R_reads' HO372.out).2.2 | (with_reducible refine Kd.C_alloc ?_ _) | (with_reducible refine Kd.C_drewN ?_ _) | (with_reducible refine Kd.C_drew ?_))); (case side2 => exact (Kd.R_reads' HO372.out).2.1); rintro e w14 ⟨rfl, hb⟩; refine ⟨_, rfl, ?_⟩; have n0_ := Aside0.mk (Kd.R_below (by (with_reducible repeat (first | apply Kd.R_alloc | apply Kd.R_drewN | apply Kd.R_drew)); exact HO372.out) hb); have n1_ := Aside0.mk (Kd.R_below (by (with_reducible repeat (first | apply Kd.R_alloc | apply Kd.R_drewN | apply Kd.R_drew)); exact HO377.out) hb); have n2_ := Aside0.mk (below_step (by repeat (first | (with_reducible first | exact HB.out | apply below_alloc | apply pw_below_drewN | apply below_drew1) | exact HB.out)) hb); clear HO372; clear HO377; clear HB; have HO372 := n0_; have HO377 := n1_; have HB := n2_; clear n0_ n1_ n2_; (try clear hb); (try clear hb2); (try clear hk); (try clear hi)))
  (try simp only [Act.put, List.setIfInBounds_toArray, List.set_cons_zero, List.set_cons_succ])
  go_cut [42] (fun v42 wc => ∃ (kq : Nat) (x42_8 : Bool), v42 = .bool x42_8 ∧ Aside0 (mootkeep4_CapExact.j0 kq t373 t370 t374 t378 x42_8 = some r) ∧ Aside0 (kq ≤ k) ∧ Aside0 (Kd.R k59 59 wc w.heap.size (fun _ => True) (.slice Ao12 t370.length co12) t370) ∧ Aside0 (Kd.R (Kd.int .i64) 3 wc w.heap.size (fun _ => True) v376 t374) ∧ Aside0 (Below w.heap.size w wc))
  case first =>
   have H := HC9.out
   clear HC9
   by_cases c15 : t375 = 0
   ·rw [if_pos c15] at H
    have c15b0 : (t375 == 0) = true := beq_iff_eq.mpr c15
    have c15b1 : (t375 != 0) = false := bne_eq_false_iff_eq.mpr c15
    clear c15
    (first | rw [c15b0] | (simp only [i64_w, i32_w]; rw [c15b0]) | skip)
    by_cases c16 : t379 = 0
    ·rw [if_pos c16] at H
     have c16b0 : (t379 == 0) = true := beq_iff_eq.mpr c16
     have c16b1 : (t379 != 0) = false := bne_eq_false_iff_eq.mpr c16
     clear c16
     have H' := Aside0.mk H
     clear H
     obtain ⟨Ao17, co17, eo17⟩ := Kd.R_slice HO377.out
     subst eo17
     go_wp2
     go_meet
     case rel => exact ⟨_, (((t374.length : Int) != (t370.length : Int))), (by first | rfl | (simp; done) | (simp [*]; done)), H', ⟨by first | omega | exact Nat.le_refl _⟩, ⟨by (with_reducible repeat (first | apply Kd.R_alloc | apply Kd.R_drewN | apply Kd.R_drew)); exact HO372.out⟩, ⟨by (with_reducible repeat (first | apply Kd.R_alloc | apply Kd.R_drewN | apply Kd.R_drew)); exact HO377.out⟩, ⟨by repeat (first | (with_reducible first | exact HB.out | apply below_alloc | apply pw_below_drewN | apply below_drew1) | exact HB.out)⟩⟩
    ·rw [if_neg c16] at H
     have c16b0 : (t379 == 0) = false := beq_eq_false_iff_ne.mpr c16
     have c16b1 : (t379 != 0) = true := bne_iff_ne.mpr c16
     have H' := Aside0.mk H
     clear H
     go_wp2
     go_meet
     case rel => exact ⟨_, (true), (by first | rfl | (simp; done) | (simp [*]; done)), H', ⟨by first | omega | exact Nat.le_refl _⟩, ⟨by (with_reducible repeat (first | apply Kd.R_alloc | apply Kd.R_drewN | apply Kd.R_drew)); exact HO372.out⟩, ⟨by (with_reducible repeat (first | apply Kd.R_alloc | apply Kd.R_drewN | apply Kd.R_drew)); exact HO377.out⟩, ⟨by repeat (first | (with_reducible first | exact HB.out | apply below_alloc | apply pw_below_drewN | apply below_drew1) | exact HB.out)⟩⟩
   ·rw [if_neg c15] at H
    have c15b0 : (t375 == 0) = false := beq_eq_false_iff_ne.mpr c15
    have c15b1 : (t375 != 0) = true := bne_iff_ne.mpr c15
    (first | rw [c15b0] | (simp only [i64_w, i32_w]; rw [c15b0]) | skip)
    have H' := Aside0.mk H
    clear H
    go_wp2
    go_meet
    case rel => exact ⟨_, (true), (by first | rfl | (simp; done) | (simp [*]; done)), H', ⟨by first | omega | exact Nat.le_refl _⟩, ⟨by (with_reducible repeat (first | apply Kd.R_alloc | apply Kd.R_drewN | apply Kd.R_drew)); exact HO372.out⟩, ⟨by (with_reducible repeat (first | apply Kd.R_alloc | apply Kd.R_drewN | apply Kd.R_drew)); exact HO377.out⟩, ⟨by repeat (first | (with_reducible first | exact HB.out | apply below_alloc | apply pw_below_drewN | apply below_drew1) | exact HB.out)⟩⟩
  case rest =>
   clear HC9
   try clear c1
   try clear c2
   try clear p2
   try clear c3
   try clear c4
   try clear p4
   try clear c10
   try clear c15
   try clear c15b0
   try clear c15b1
   try clear c16
   try clear c16b0
   try clear c16b1
   obtain ⟨kq, x42_8, rfl, HA, HJ8, HO_5, HO_6, HB⟩ := hcut
   cases kq with
   | zero => exact absurd HA.out (by simp [mootkeep4_CapExact.j0])
   | succ kj8 =>
    have H := HA.out
    clear HA
    simp only [mootkeep4_CapExact.j0] at H
    by_cases c18 : x42_8 = true
    ·subst c18
     have H1 : (some false) = some r := by rw [if_pos rfl] at H; exact H
     clear H
     have H := H1
     clear H1
     obtain rfl := Option.some.inj H
     go_wp2
     go_ret
     exact ⟨by first | rfl | (simp [errW_none, errW_some] <;> rfl) | (simp [*, errW_none, errW_some] <;> rfl), by repeat (first | (with_reducible first | exact HB.out | apply below_alloc | apply pw_below_drewN | apply below_drew1) | exact HB.out)⟩
    ·replace c18 := Bool.eq_false_iff.mpr c18
     subst c18
     have H1 : (mootkeep4_CapExact.l0 kj8 t373 t370 t378 0 t374 (t374.length : Int) 0) = some r := by rw [if_neg (show ¬ (false = true) by decide)] at H; exact H
     clear H
     have H := H1
     clear H1
     have H' := Aside0.mk H
     clear H
     obtain ⟨Ao19, co19, eo19⟩ := Kd.R_slice HO_6.out
     subst eo19
     go_wp2
     go_loopg [10, 45] kj8 (fun kq v10 v45 w' => ∃ (x10_2 : Int) (x45_2 : Int), v10 = .int .i64 x10_2 ∧ v45 = .int .i64 x45_2 ∧ Aside0 (mootkeep4_CapExact.l0 kq t373 t370 t378 x10_2 t374 (t374.length : Int) x45_2 = some r) ∧ Aside0 (kq ≤ kj8) ∧ Aside0 (Kd.R k59 59 w' w.heap.size (fun _ => True) (.slice Ao12 t370.length co12) t370) ∧ Aside0 (Kd.R (Kd.int .i64) 3 w' w.heap.size (fun _ => True) (.slice Ao19 t374.length co19) t374) ∧ Aside0 (Below w.heap.size w w'))
     case atStart => exact ⟨(0), (0), (by first | rfl | (simp; done) | (simp [*]; done)), (by first | rfl | (simp; done) | (simp [*]; done)), H', ⟨Nat.le_refl _⟩, ⟨by (with_reducible repeat (first | apply Kd.R_alloc | apply Kd.R_drewN | apply Kd.R_drew)); exact HO_5.out⟩, ⟨by (with_reducible repeat (first | apply Kd.R_alloc | apply Kd.R_drewN | apply Kd.R_drew)); exact HO_6.out⟩, ⟨by repeat (first | (with_reducible first | exact HB.out | apply below_alloc | apply pw_below_drewN | apply below_drew1) | exact HB.out)⟩⟩
     case round =>
      clear H'
      try clear c1
      try clear c2
      try clear p2
      try clear c3
      try clear c4
      try clear p4
      try clear c10
      try clear c15
      try clear c15b0
      try clear c15b1
      try clear c16
      try clear c16b0
      try clear c16b1
      try clear c18
      try clear p2
      try clear p4
      obtain ⟨x10_2, x45_2, rfl, rfl, HA, HK2, HO_5, HO_43, HB⟩ := hrel
      cases gk with
      | zero => exact absurd HA.out (by simp [mootkeep4_CapExact.l0])
      | succ k2 =>
       have H := HA.out
       clear HA
       simp only [mootkeep4_CapExact.l0] at H
       by_cases c20 : x45_2 < (t374.length : Int)
       ·rw [if_pos c20] at H
        have c20b0 : decide (x45_2 < (t374.length : Int)) = true := decide_eq_true c20
        clear c20
        by_cases c21 : 0 ≤ x45_2
        ·rw [if_pos c21] at H
         have c21b0 : decide (0 ≤ x45_2) = true := decide_eq_true c21
         clear c21
         by_cases c22 : x45_2 < (t374.length : Int)
         ·rw [if_pos c22] at H
          have c22b0 : decide (x45_2 < (t374.length : Int)) = true := decide_eq_true c22
          clear c22
          by_cases c23 : (rd t374 x45_2) < 0
          ·rw [if_pos c23] at H
           have c23b0 : decide ((rd t374 x45_2) < 0) = true := decide_eq_true c23
           clear c23
           obtain rfl := Option.some.inj H
           have p380 : 0 ≤ (x45_2 : Int) := of_decide_eq_true (by first | (with_reducible assumption) | assumption)
           have q380 : x45_2 < (t374.length : Int) := of_decide_eq_true (by first | (with_reducible assumption) | assumption)
           obtain ⟨ad380, e380, hx380_0⟩ := Kd.at_int (Kd.R_reads' HO_43.out).2.2 x45_2 p380 q380
           cases e380
           replace p380 := eq_true p380
           replace q380 := eq_true q380
           go_wp2
           go_ret
           exact ⟨by first | rfl | (simp [errW_none, errW_some] <;> rfl) | (simp [*, errW_none, errW_some] <;> rfl), by repeat (first | (with_reducible first | exact HB.out | apply below_alloc | apply pw_below_drewN | apply below_drew1) | exact HB.out)⟩
          ·rw [if_neg c23] at H
           have c23b0 : decide ((rd t374 x45_2) < 0) = false := decide_eq_false c23
           clear c23
           by_cases c24 : x45_2 < (t370.length : Int)
           ·rw [if_pos c24] at H
            have c24b0 : decide (x45_2 < (t370.length : Int)) = true := decide_eq_true c24
            clear c24
            by_cases c25 : (rd t374 x45_2) > ((rd_T59 t370 x45_2).f4)
            ·rw [if_pos c25] at H
             have c25b0 : decide (((rd_T59 t370 x45_2).f4) < (rd t374 x45_2)) = true := decide_eq_true c25
             clear c25
             obtain rfl := Option.some.inj H
             have p380 : 0 ≤ (x45_2 : Int) := of_decide_eq_true (by first | (with_reducible assumption) | assumption)
             have q380 : x45_2 < (t374.length : Int) := of_decide_eq_true (by first | (with_reducible assumption) | assumption)
             obtain ⟨ad380, e380, hx380_0⟩ := Kd.at_int (Kd.R_reads' HO_43.out).2.2 x45_2 p380 q380
             cases e380
             replace p380 := eq_true p380
             replace q380 := eq_true q380
             have p381 : 0 ≤ (x45_2 : Int) := of_decide_eq_true (by first | (with_reducible assumption) | assumption)
             have q381 : x45_2 < (t370.length : Int) := of_decide_eq_true (by first | (with_reducible assumption) | assumption)
             obtain ⟨ad381, e381, hx381_0, hx381_1, hx381_2, hx381_3, hx381_4⟩ := at_T59 (Kd.R_reads' HO_5.out).2.2 x45_2 p381 q381
             cases e381
             replace p381 := eq_true p381
             replace q381 := eq_true q381
             go_wp2
             go_ret
             exact ⟨by first | rfl | (simp [errW_none, errW_some] <;> rfl) | (simp [*, errW_none, errW_some] <;> rfl), by repeat (first | (with_reducible first | exact HB.out | apply below_alloc | apply pw_below_drewN | apply below_drew1) | exact HB.out)⟩
            ·rw [if_neg c25] at H
             have c25b0 : decide (((rd_T59 t370 x45_2).f4) < (rd t374 x45_2)) = false := decide_eq_false c25
             clear c25
             have H' := Aside0.mk H
             clear H
             have p380 : 0 ≤ (x45_2 : Int) := of_decide_eq_true (by first | (with_reducible assumption) | assumption)
             have q380 : x45_2 < (t374.length : Int) := of_decide_eq_true (by first | (with_reducible assumption) | assumption)
             obtain ⟨ad380, e380, hx380_0⟩ := Kd.at_int (Kd.R_reads' HO_43.out).2.2 x45_2 p380 q380
             cases e380
             replace p380 := eq_true p380
             replace q380 := eq_true q380
             have p381 : 0 ≤ (x45_2 : Int) := of_decide_eq_true (by first | (with_reducible assumption) | assumption)
             have q381 : x45_2 < (t370.length : Int) := of_decide_eq_true (by first | (with_reducible assumption) | assumption)
             obtain ⟨ad381, e381, hx381_0, hx381_1, hx381_2, hx381_3, hx381_4⟩ := at_T59 (Kd.R_reads' HO_5.out).2.2 x45_2 p381 q381
             cases e381
             replace p381 := eq_true p381
             replace q381 := eq_true q381
             go_wp2
             go_roundg k2
             case measure => have := HJ8.out; have := HK2.out; omega
             case rel => exact ⟨(wrap64 (x10_2 + (rd t374 x45_2))), (wrap64 (x45_2 + 1)), (by first | rfl | (simp; done) | (simp [*]; done)), (by first | rfl | (simp; done) | (simp [*]; done)), H', ⟨by have := HJ8.out; have := HK2.out; omega⟩, ⟨by (with_reducible repeat (first | apply Kd.R_alloc | apply Kd.R_drewN | apply Kd.R_drew)); exact HO_5.out⟩, ⟨by (with_reducible repeat (first | apply Kd.R_alloc | apply Kd.R_drewN | apply Kd.R_drew)); exact HO_43.out⟩, ⟨by repeat (first | (with_reducible first | exact HB.out | apply below_alloc | apply pw_below_drewN | apply below_drew1) | exact HB.out)⟩⟩
           ·rw [if_neg c24] at H
            exact absurd H (by simp)
         ·rw [if_neg c22] at H
          exact absurd H (by simp)
        ·rw [if_neg c21] at H
         exact absurd H (by simp)
       ·rw [if_neg c20] at H
        have c20b0 : decide (x45_2 < (t374.length : Int)) = false := decide_eq_false c20
        clear c20
        obtain ⟨ji26, hji26⟩ : ∃ j_ : Int, (mn t373 t378) = j_ := ⟨_, rfl⟩
        replace H : (some (x10_2 == (ji26))) = some r := by first | (rw [hji26] at H; exact H) | (simp only [hji26] at H ⊢; exact H)
        have hji26_ : (if t378 < t373 then t378 else t373) = ji26 := hji26
        obtain rfl := Option.some.inj H
        go_wp2
        go_ret
        exact ⟨by first | rfl | (simp [errW_none, errW_some] <;> rfl) | (simp only [← hji26]; first | rfl | (simp [errW_none, errW_some] <;> rfl)) | (simp [*, errW_none, errW_some] <;> rfl), by repeat (first | (with_reducible first | exact HB.out | apply below_alloc | apply pw_below_drewN | apply below_drew1) | exact HB.out)⟩
 ·replace c4 := Bool.eq_false_iff.mpr c4
  subst c4
  have H1 : (some false) = some r := by rw [if_neg (show ¬ (false = true) by decide)] at H; exact H
  clear H
  have H := H1
  clear H1
  obtain rfl := Option.some.inj H
  go_enter Try.func10, Try.ntmps10
  go_wp2_with (first | ((with_reducible refine gate_callee (f := 31) rfl ?_); refine goesL_ (some 13) rfl rfl Try.func31 (by kernel_rfl) rfl #[] rfl (by (try simp only [List.map_toArray, List.map_cons, List.map_nil]); first | done | rfl | (simp only [List.length_drop, List.length_take]; rfl)) ?_; (with_reducible refine (mootkeep4_capped.calls k  false _ A3.out).mono ?_); rintro e w27 ⟨rfl, hb⟩; refine ⟨_, rfl, ?_⟩; have n0_ := Aside0.mk (below_step (by repeat (first | (with_reducible first | exact HB.out | apply below_alloc | apply pw_below_drewN | apply below_drew1) | exact HB.out)) hb); clear HB; have HB := n0_; clear n0_; (try clear hb); (try clear hb2); (try clear hk); (try clear hi)))
  go_ret
  exact ⟨by first | rfl | (simp [errW_none, errW_some] <;> rfl) | (simp [*, errW_none, errW_some] <;> rfl), by repeat (first | (with_reducible first | exact HB.out | apply below_alloc | apply pw_below_drewN | apply below_drew1) | exact HB.out)⟩

/-- THE ONE PURE STATEMENT of mootkeep4_CapExact: yours. -/
def mootkeep4_CapExact.Pure : Prop := ∀ (l0 : List Int) (a1 : Int), l0.length ≤ maxLen → l0.length * 8 ≤ 140737488351232 → (∀ x ∈ l0, (Lit.int .i64 x).wf = true) → (Lit.int .i64 a1).wf = true → ∃ k, mootkeep4_CapExact.f k l0 a1 = some true
theorem mootkeep4_CapExact.walk (P : mootkeep4_CapExact.Pure) (a0 : Option Addr) (len0 cap0 : Nat) (z0 : List Int) (a1 : Int) (w : World) (w0 : (a0 = none ∧ len0 = 0 ∧ cap0 = 0 ∧ z0 = []) ∨ ∃ x, a0 = some x ∧ len0 ≤ cap0 ∧ cap0 ≤ maxLen ∧ z0.length = cap0 ∧ (∀ i, i < z0.length → w.cell? (x.add i) = some (.int .i64 (z0.getD i 0))) ∧ ∀ n ∈ z0, (Lit.int .i64 n).wf = true) (y0 : len0 * 8 ≤ 140737488351232) (w1 : (Lit.int .i64 a1).wf = true) :
 Calls Try.prog 10 #[.slice a0 len0 cap0, .int .i64 a1] w fun e w' => e = .returned (.bool true) ∧ Below w.heap.size w w' := by
 obtain ⟨l0, rfl, hr0, hm0, hw0, hc0⟩ := ReadsInt.ofRowC w0
 obtain ⟨k, h⟩ := P l0 a1 hm0 y0 hw0 w1
 refine (mootkeep4_CapExact.calls k _ _ l0 a1 true w (Kd.C_of_reads (d := (0 : Int)) (h1 := fun _ => rfl) hr0) hc0 h).mono ?_
 rintro e w' ⟨rfl, hd⟩
 exact ⟨rfl, hd⟩

end Go.Proofs.Ytbcaaocogphdeaa.PCap
