-- Printed by this session's wip/myprint.py.
import Derived.Test.YtbcaaocogphdeaaPCapx0
import Derived.Test.YtbcaaocogphdeaaPCapx25
import Derived.Test.YtbcaaocogphdeaaPCapx39
import Derived.Test.YtbcaaocogphdeaaPCapx41
import Derived.Test.YtbcaaocogphdeaaPCapx43
namespace Go.Proofs.Ytbcaaocogphdeaa.PCap
open Go.RowKit Go.Proofs.YtbcaaocogphdeaaW.PrintWords Go.Proofs.YtbcaaocogphdeaaW.PrintLast Go.Proofs.YtbcaaocogphdeaaW.PrintMore
attribute [local go_sem] max2_int min2_int max_two min_two max_three min_three max_four min_four   -- for this text's walks alone
set_option linter.unusedVariables false
set_option linter.unusedSimpArgs false

/-! ### mootkeep4_CapFair: function 9 -/
mutual
def mootkeep4_CapFair.j0 : Nat → List (S59) → List Int → Bool → Option (Bool)
 | 0, _, _, _ => none
 | k + 1, x5, x6, x31 => if x31 = true then (some false) else (mootkeep4_CapFair.l0 k x5 x6 x5 (x5.length : Int) 0)
def mootkeep4_CapFair.l0 : Nat → List (S59) → List Int → List (S59) → Int → Int → Option (Bool)
 | 0, _, _, _, _, _ => none
 | k + 1, x5, x6, x32, x33, x34 => if x34 < x33 then (if 0 ≤ x34 then (if x34 < (x32.length : Int) then (mootkeep4_CapFair.l1 k x5 x6 x34 x32 x33 x34 x5 (x5.length : Int) 0 ((rd_T59 x32 x34).f0) ((rd_T59 x32 x34).f1) ((rd_T59 x32 x34).f2) ((rd_T59 x32 x34).f3) ((rd_T59 x32 x34).f4)) else (none)) else (none)) else (some true)
def mootkeep4_CapFair.l1 : Nat → List (S59) → List Int → Int → List (S59) → Int → Int → List (S59) → Int → Int → Int → Int → Int → Int → Int → Option (Bool)
 | 0, _, _, _, _, _, _, _, _, _, _, _, _, _, _ => none
 | k + 1, x5, x6, x8, x32, x33, x34, x39, x40, x41, x360000, x360001, x360002, x360003, x360004 => if x41 < x40 then (if 0 ≤ x41 then (if x41 < (x39.length : Int) then (if 0 ≤ x8 then (if x8 < (x6.length : Int) then (if (rd x6 x8) > 0 then (if ((rd_T59 x39 x41).f3) < x360003 then (if x41 < (x6.length : Int) then (mootkeep4_CapFair.j3 k x5 x6 x8 x41 x32 x33 x34 x39 x40 x41 (decide ((rd x6 x41) < ((rd_T59 x39 x41).f4))) x360000 x360001 x360002 x360003 x360004 ((rd_T59 x39 x41).f0) ((rd_T59 x39 x41).f1) ((rd_T59 x39 x41).f2) ((rd_T59 x39 x41).f3) ((rd_T59 x39 x41).f4)) else (none)) else (mootkeep4_CapFair.j3 k x5 x6 x8 x41 x32 x33 x34 x39 x40 x41 false x360000 x360001 x360002 x360003 x360004 ((rd_T59 x39 x41).f0) ((rd_T59 x39 x41).f1) ((rd_T59 x39 x41).f2) ((rd_T59 x39 x41).f3) ((rd_T59 x39 x41).f4))) else (mootkeep4_CapFair.j3 k x5 x6 x8 x41 x32 x33 x34 x39 x40 x41 false x360000 x360001 x360002 x360003 x360004 ((rd_T59 x39 x41).f0) ((rd_T59 x39 x41).f1) ((rd_T59 x39 x41).f2) ((rd_T59 x39 x41).f3) ((rd_T59 x39 x41).f4))) else (none)) else (none)) else (none)) else (none)) else (mootkeep4_CapFair.l0 k x5 x6 x32 x33 (wrap64 (x34 + 1)))
def mootkeep4_CapFair.j3 : Nat → List (S59) → List Int → Int → Int → List (S59) → Int → Int → List (S59) → Int → Int → Bool → Int → Int → Int → Int → Int → Int → Int → Int → Int → Int → Option (Bool)
 | 0, _, _, _, _, _, _, _, _, _, _, _, _, _, _, _, _, _, _, _, _, _ => none
 | k + 1, x5, x6, x8, x10, x32, x33, x34, x39, x40, x41, x66, x360000, x360001, x360002, x360003, x360004, x362000, x362001, x362002, x362003, x362004 => if x66 = true then (some false) else (if x360003 = x362003 then (if x360004 > x362004 then (if 0 ≤ x8 then (if x8 < (x6.length : Int) then (if 0 ≤ x10 then (if x10 < (x6.length : Int) then (if (rd x6 x8) < (rd x6 x10) then (some false) else (mootkeep4_CapFair.l1 k x5 x6 x8 x32 x33 x34 x39 x40 (wrap64 (x41 + 1)) x360000 x360001 x360002 x360003 x360004)) else (none)) else (none)) else (none)) else (none)) else (mootkeep4_CapFair.l1 k x5 x6 x8 x32 x33 x34 x39 x40 (wrap64 (x41 + 1)) x360000 x360001 x360002 x360003 x360004)) else (mootkeep4_CapFair.l1 k x5 x6 x8 x32 x33 x34 x39 x40 (wrap64 (x41 + 1)) x360000 x360001 x360002 x360003 x360004))
end
def mootkeep4_CapFair.f (k : Nat) (l0 : List Int) (a1 : Int) : Option (Bool) := (mootkeep4_capped.f k).bind fun t349 => (if t349 = true then ((mootkeep4_Claims.f k l0).bind fun t350 => ((mootmake_Below.f a1 6000).bind fun t353 => ((cap_Budget.f k t350 t353).bind fun bt354 => (if bt354.2 = 0 then (mootkeep4_CapFair.j0 k t350 bt354.1 ((bt354.1.length : Int) != (t350.length : Int))) else (mootkeep4_CapFair.j0 k t350 bt354.1 true))))) else (some false))
theorem mootkeep4_CapFair.mono_l : ∀ k, (∀ y0 y1 y2, LeO (mootkeep4_CapFair.j0 k y0 y1 y2) (mootkeep4_CapFair.j0 (k + 1) y0 y1 y2)) ∧ (∀ y0 y1 y2 y3 y4, LeO (mootkeep4_CapFair.l0 k y0 y1 y2 y3 y4) (mootkeep4_CapFair.l0 (k + 1) y0 y1 y2 y3 y4)) ∧ (∀ y0 y1 y2 y3 y4 y5 y6 y7 y8 y9 y10 y11 y12 y13, LeO (mootkeep4_CapFair.l1 k y0 y1 y2 y3 y4 y5 y6 y7 y8 y9 y10 y11 y12 y13) (mootkeep4_CapFair.l1 (k + 1) y0 y1 y2 y3 y4 y5 y6 y7 y8 y9 y10 y11 y12 y13)) ∧ (∀ y0 y1 y2 y3 y4 y5 y6 y7 y8 y9 y10 y11 y12 y13 y14 y15 y16 y17 y18 y19 y20, LeO (mootkeep4_CapFair.j3 k y0 y1 y2 y3 y4 y5 y6 y7 y8 y9 y10 y11 y12 y13 y14 y15 y16 y17 y18 y19 y20) (mootkeep4_CapFair.j3 (k + 1) y0 y1 y2 y3 y4 y5 y6 y7 y8 y9 y10 y11 y12 y13 y14 y15 y16 y17 y18 y19 y20))
 | 0 => ⟨fun _ _ _ r h => by simp [mootkeep4_CapFair.j0] at h, fun _ _ _ _ _ r h => by simp [mootkeep4_CapFair.l0] at h, fun _ _ _ _ _ _ _ _ _ _ _ _ _ _ r h => by simp [mootkeep4_CapFair.l1] at h, fun _ _ _ _ _ _ _ _ _ _ _ _ _ _ _ _ _ _ _ _ _ r h => by simp [mootkeep4_CapFair.j3] at h⟩
 | k + 1 => by
  obtain ⟨ih0, ih1, ih2, ih3⟩ := mootkeep4_CapFair.mono_l k
  refine ⟨?_, ?_, ?_, ?_⟩
  ·intro y0 y1 y2
   unfold mootkeep4_CapFair.j0
   repeat' first
   | (with_reducible exact ih0 _ _ _)
   | (with_reducible exact ih1 _ _ _ _ _)
   | (with_reducible exact ih2 _ _ _ _ _ _ _ _ _ _ _ _ _ _)
   | (with_reducible exact ih3 _ _ _ _ _ _ _ _ _ _ _ _ _ _ _ _ _ _ _ _ _)
   | (with_reducible exact cap_Budget.mono _ _ _)
   | (with_reducible exact mootkeep4_Claims.mono _ _)
   | (with_reducible exact mootkeep4_capped.mono _)
   | (with_reducible exact LeO.refl _)
   | (with_reducible exact LeO.none _)
   | (with_reducible refine LeO.ite ?_ ?_)
   | (with_reducible refine LeO.bind ?_ (fun _ => ?_))
   | exact ih0 _ _ _
   | exact ih1 _ _ _ _ _
   | exact ih2 _ _ _ _ _ _ _ _ _ _ _ _ _ _
   | exact ih3 _ _ _ _ _ _ _ _ _ _ _ _ _ _ _ _ _ _ _ _ _
   | exact cap_Budget.mono _ _ _
   | exact mootkeep4_Claims.mono _ _
   | exact mootkeep4_capped.mono _
   | exact LeO.none _
   | refine LeO.ite ?_ ?_
   | refine LeO.bind ?_ (fun _ => ?_)
  ·intro y0 y1 y2 y3 y4
   unfold mootkeep4_CapFair.l0
   repeat' first
   | (with_reducible exact ih0 _ _ _)
   | (with_reducible exact ih1 _ _ _ _ _)
   | (with_reducible exact ih2 _ _ _ _ _ _ _ _ _ _ _ _ _ _)
   | (with_reducible exact ih3 _ _ _ _ _ _ _ _ _ _ _ _ _ _ _ _ _ _ _ _ _)
   | (with_reducible exact cap_Budget.mono _ _ _)
   | (with_reducible exact mootkeep4_Claims.mono _ _)
   | (with_reducible exact mootkeep4_capped.mono _)
   | (with_reducible exact LeO.refl _)
   | (with_reducible exact LeO.none _)
   | (with_reducible refine LeO.ite ?_ ?_)
   | (with_reducible refine LeO.bind ?_ (fun _ => ?_))
   | exact ih0 _ _ _
   | exact ih1 _ _ _ _ _
   | exact ih2 _ _ _ _ _ _ _ _ _ _ _ _ _ _
   | exact ih3 _ _ _ _ _ _ _ _ _ _ _ _ _ _ _ _ _ _ _ _ _
   | exact cap_Budget.mono _ _ _
   | exact mootkeep4_Claims.mono _ _
   | exact mootkeep4_capped.mono _
   | exact LeO.none _
   | refine LeO.ite ?_ ?_
   | refine LeO.bind ?_ (fun _ => ?_)
  ·intro y0 y1 y2 y3 y4 y5 y6 y7 y8 y9 y10 y11 y12 y13
   unfold mootkeep4_CapFair.l1
   repeat' first
   | (with_reducible exact ih0 _ _ _)
   | (with_reducible exact ih1 _ _ _ _ _)
   | (with_reducible exact ih2 _ _ _ _ _ _ _ _ _ _ _ _ _ _)
   | (with_reducible exact ih3 _ _ _ _ _ _ _ _ _ _ _ _ _ _ _ _ _ _ _ _ _)
   | (with_reducible exact cap_Budget.mono _ _ _)
   | (with_reducible exact mootkeep4_Claims.mono _ _)
   | (with_reducible exact mootkeep4_capped.mono _)
   | (with_reducible exact LeO.refl _)
   | (with_reducible exact LeO.none _)
   | (with_reducible refine LeO.ite ?_ ?_)
   | (with_reducible refine LeO.bind ?_ (fun _ => ?_))
   | exact ih0 _ _ _
   | exact ih1 _ _ _ _ _
   | exact ih2 _ _ _ _ _ _ _ _ _ _ _ _ _ _
   | exact ih3 _ _ _ _ _ _ _ _ _ _ _ _ _ _ _ _ _ _ _ _ _
   | exact cap_Budget.mono _ _ _
   | exact mootkeep4_Claims.mono _ _
   | exact mootkeep4_capped.mono _
   | exact LeO.none _
   | refine LeO.ite ?_ ?_
   | refine LeO.bind ?_ (fun _ => ?_)
  ·intro y0 y1 y2 y3 y4 y5 y6 y7 y8 y9 y10 y11 y12 y13 y14 y15 y16 y17 y18 y19 y20
   unfold mootkeep4_CapFair.j3
   repeat' first
   | (with_reducible exact ih0 _ _ _)
   | (with_reducible exact ih1 _ _ _ _ _)
   | (with_reducible exact ih2 _ _ _ _ _ _ _ _ _ _ _ _ _ _)
   | (with_reducible exact ih3 _ _ _ _ _ _ _ _ _ _ _ _ _ _ _ _ _ _ _ _ _)
   | (with_reducible exact cap_Budget.mono _ _ _)
   | (with_reducible exact mootkeep4_Claims.mono _ _)
   | (with_reducible exact mootkeep4_capped.mono _)
   | (with_reducible exact LeO.refl _)
   | (with_reducible exact LeO.none _)
   | (with_reducible refine LeO.ite ?_ ?_)
   | (with_reducible refine LeO.bind ?_ (fun _ => ?_))
   | exact ih0 _ _ _
   | exact ih1 _ _ _ _ _
   | exact ih2 _ _ _ _ _ _ _ _ _ _ _ _ _ _
   | exact ih3 _ _ _ _ _ _ _ _ _ _ _ _ _ _ _ _ _ _ _ _ _
   | exact cap_Budget.mono _ _ _
   | exact mootkeep4_Claims.mono _ _
   | exact mootkeep4_capped.mono _
   | exact LeO.none _
   | refine LeO.ite ?_ ?_
   | refine LeO.bind ?_ (fun _ => ?_)
theorem mootkeep4_CapFair.mono : ∀ a0 a1 k, LeO (mootkeep4_CapFair.f k a0 a1) (mootkeep4_CapFair.f (k + 1) a0 a1) := by
 intro a0 a1 k
 obtain ⟨ih0, ih1, ih2, ih3⟩ := mootkeep4_CapFair.mono_l k
 unfold mootkeep4_CapFair.f
 repeat' first
  | (with_reducible exact ih0 _ _ _)
  | (with_reducible exact ih1 _ _ _ _ _)
  | (with_reducible exact ih2 _ _ _ _ _ _ _ _ _ _ _ _ _ _)
  | (with_reducible exact ih3 _ _ _ _ _ _ _ _ _ _ _ _ _ _ _ _ _ _ _ _ _)
  | (with_reducible exact cap_Budget.mono _ _ _)
  | (with_reducible exact mootkeep4_Claims.mono _ _)
  | (with_reducible exact mootkeep4_capped.mono _)
  | (with_reducible exact LeO.refl _)
  | (with_reducible exact LeO.none _)
  | (with_reducible refine LeO.ite ?_ ?_)
  | (with_reducible refine LeO.bind ?_ (fun _ => ?_))
  | exact ih0 _ _ _
  | exact ih1 _ _ _ _ _
  | exact ih2 _ _ _ _ _ _ _ _ _ _ _ _ _ _
  | exact ih3 _ _ _ _ _ _ _ _ _ _ _ _ _ _ _ _ _ _ _ _ _
  | exact cap_Budget.mono _ _ _
  | exact mootkeep4_Claims.mono _ _
  | exact mootkeep4_capped.mono _
  | exact LeO.none _
  | refine LeO.ite ?_ ?_
  | refine LeO.bind ?_ (fun _ => ?_)
set_option maxHeartbeats 8000000 in
set_option maxRecDepth 100000 in
theorem mootkeep4_CapFair.calls (k : Nat) (A0 : Option Addr) (c0 : Nat) (l0 : List Int) (a1 : Int) (r : Bool) (w : World) (hr0 : Kd.C (Kd.int .i64) w A0 l0.length l0) (hc0 : l0.length ≤ c0) (h : mootkeep4_CapFair.f k l0 a1 = some r) :
 Calls Try.prog 9 #[.slice A0 l0.length c0, .int .i64 a1] w fun e w' => e = .returned (.bool r) ∧ Below w.heap.size w w' := by
 have hu59 := Try.underlying59
 have HR0 := Aside0.mk hr0
 have HC0 := Aside0.mk hc0
 clear hr0 hc0
 have HB := Aside0.mk (Below.refl w.heap.size w)
 have H : ((mootkeep4_capped.f k).bind fun t349 => (if t349 = true then ((mootkeep4_Claims.f k l0).bind fun t350 => ((mootmake_Below.f a1 6000).bind fun t353 => ((cap_Budget.f k t350 t353).bind fun bt354 => (if bt354.2 = 0 then (mootkeep4_CapFair.j0 k t350 bt354.1 ((bt354.1.length : Int) != (t350.length : Int))) else (mootkeep4_CapFair.j0 k t350 bt354.1 true))))) else (some false))) = some r := h
 clear h
 replace H := Option.bind_eq_some_iff.mp H
 obtain ⟨t349, A30, H⟩ := H
 replace H : (if t349 = true then ((mootkeep4_Claims.f k l0).bind fun t350 => ((mootmake_Below.f a1 6000).bind fun t353 => ((cap_Budget.f k t350 t353).bind fun bt354 => (if bt354.2 = 0 then (mootkeep4_CapFair.j0 k t350 bt354.1 ((bt354.1.length : Int) != (t350.length : Int))) else (mootkeep4_CapFair.j0 k t350 bt354.1 true))))) else (some false)) = some r := H
 have A3 := Aside0.mk A30
 clear A30
 by_cases c4 : t349 = true
 ·subst c4
  have H1 : ((mootkeep4_Claims.f k l0).bind fun t350 => ((mootmake_Below.f a1 6000).bind fun t353 => ((cap_Budget.f k t350 t353).bind fun bt354 => (if bt354.2 = 0 then (mootkeep4_CapFair.j0 k t350 bt354.1 ((bt354.1.length : Int) != (t350.length : Int))) else (mootkeep4_CapFair.j0 k t350 bt354.1 true))))) = some r := by rw [if_pos rfl] at H; exact H
  clear H
  have H := H1
  clear H1
  replace H := Option.bind_eq_some_iff.mp H
  obtain ⟨t350, A50, H⟩ := H
  replace H : ((mootmake_Below.f a1 6000).bind fun t353 => ((cap_Budget.f k t350 t353).bind fun bt354 => (if bt354.2 = 0 then (mootkeep4_CapFair.j0 k t350 bt354.1 ((bt354.1.length : Int) != (t350.length : Int))) else (mootkeep4_CapFair.j0 k t350 bt354.1 true)))) = some r := H
  have A5 := Aside0.mk A50
  clear A50
  replace H := Option.bind_eq_some_iff.mp H
  obtain ⟨t353, A60, H⟩ := H
  replace H : ((cap_Budget.f k t350 t353).bind fun bt354 => (if bt354.2 = 0 then (mootkeep4_CapFair.j0 k t350 bt354.1 ((bt354.1.length : Int) != (t350.length : Int))) else (mootkeep4_CapFair.j0 k t350 bt354.1 true))) = some r := H
  have A6 := Aside0.mk A60
  clear A60
  replace H := Option.bind_eq_some_iff.mp H
  obtain ⟨⟨t354, t355⟩, A70, H⟩ := H
  replace H : (if t355 = 0 then (mootkeep4_CapFair.j0 k t350 t354 ((t354.length : Int) != (t350.length : Int))) else (mootkeep4_CapFair.j0 k t350 t354 true)) = some r := H
  have A7 := Aside0.mk A70
  clear A70
  have HC8 := Aside0.mk H
  clear H
  go_enter Try.func9, Try.ntmps9
  go_upto_region 5 with (first | (go_at_call 31; (with_reducible refine (mootkeep4_capped.calls k  true _ A3.out).mono ?_); rintro e w9 ⟨rfl, hb⟩; have n0_ := Aside0.mk (below_step (by repeat (first | (with_reducible first | exact HB.out | apply below_alloc | apply pw_below_drewN | apply below_drew1) | exact HB.out)) hb); clear HB; have HB := n0_; clear n0_; (try clear hb); (try clear hb2); (try clear hk); (try clear hi)) | (go_at_call 32; (with_reducible refine (mootkeep4_Claims.calls k _ _ l0 t350 _ ?side1 ?side2 A5.out).mono ?_); (case side1 => repeat (first | exact (Kd.C_below HR0.out HB.out) | (with_reducible refine Kd.C_alloc ?_ _) | (with_reducible refine Kd.C_drewN ?_ _) | (with_reducible refine Kd.C_drew ?_))); (case side2 => exact HC0.out); rintro e w10 ⟨v351, rfl, ho0, hb⟩; have n0_ := Aside0.mk (Kd.R_lower ho0 (below_size (by repeat (first | (with_reducible first | exact HB.out | apply below_alloc | apply pw_below_drewN | apply below_drew1) | exact HB.out)))); have n1_ := Aside0.mk (below_step (by repeat (first | (with_reducible first | exact HB.out | apply below_alloc | apply pw_below_drewN | apply below_drew1) | exact HB.out)) hb); clear HB; have HO352 := n0_; have HB := n1_; clear n0_ n1_; (try clear hb); (try clear hb2); (try clear hk); (try clear hi); (try clear ho0)) | (go_at_call 26; (with_reducible refine (mootmake_Below.calls a1 6000 t353 _ A6.out).mono ?_); rintro e w' ⟨rfl, ⟨nd, rfl⟩⟩; (try first | exact ⟨rfl, _, World.drewN_drewN _ _ _⟩ | exact ⟨rfl, _, Eq.trans (World.drewN_drewN _ _ _) (congrArg (World.drewN _) (Nat.add_assoc _ _ _))⟩); obtain ⟨Ao11, co11, eo11⟩ := Kd.R_slice HO352.out; subst eo11) | (go_at_call 33; (with_reducible refine (cap_Budget.calls k _ _ t350 t353 t354 t355 _ ?side1 ?side2 A7.out).mono ?_); (case side1 => repeat (first | exact (Kd.R_reads' HO352.out).2.2 | (with_reducible refine Kd.C_alloc ?_ _) | (with_reducible refine Kd.C_drewN ?_ _) | (with_reducible refine Kd.C_drew ?_))); (case side2 => exact (Kd.R_reads' HO352.out).2.1); rintro e w12 ⟨v356, rfl, ho0, hb⟩; have n0_ := Aside0.mk (Kd.R_below (by (with_reducible repeat (first | apply Kd.R_alloc | apply Kd.R_drewN | apply Kd.R_drew)); exact HO352.out) hb); have n1_ := Aside0.mk (Kd.R_lower ho0 (below_size (by repeat (first | (with_reducible first | exact HB.out | apply below_alloc | apply pw_below_drewN | apply below_drew1) | exact HB.out)))); have n2_ := Aside0.mk (below_step (by repeat (first | (with_reducible first | exact HB.out | apply below_alloc | apply pw_below_drewN | apply below_drew1) | exact HB.out)) hb); clear HO352; clear HB; have HO352 := n0_; have HO357 := n1_; have HB := n2_; clear n0_ n1_ n2_; (try clear hb); (try clear hb2); (try clear hk); (try clear hi); (try clear ho0)))
  repeat (go_quiet (first | (go_at_call 31; (with_reducible refine (mootkeep4_capped.calls k  true _ A3.out).mono ?_); rintro e w9 ⟨rfl, hb⟩; have n0_ := Aside0.mk (below_step (by repeat (first | (with_reducible first | exact HB.out | apply below_alloc | apply pw_below_drewN | apply below_drew1) | exact HB.out)) hb); clear HB; have HB := n0_; clear n0_; (try clear hb); (try clear hb2); (try clear hk); (try clear hi)) | (go_at_call 32; (with_reducible refine (mootkeep4_Claims.calls k _ _ l0 t350 _ ?side1 ?side2 A5.out).mono ?_); (case side1 => repeat (first | exact (Kd.C_below HR0.out HB.out) | (with_reducible refine Kd.C_alloc ?_ _) | (with_reducible refine Kd.C_drewN ?_ _) | (with_reducible refine Kd.C_drew ?_))); (case side2 => exact HC0.out); rintro e w10 ⟨v351, rfl, ho0, hb⟩; have n0_ := Aside0.mk (Kd.R_lower ho0 (below_size (by repeat (first | (with_reducible first | exact HB.out | apply below_alloc | apply pw_below_drewN | apply below_drew1) | exact HB.out)))); have n1_ := Aside0.mk (below_step (by repeat (first | (with_reducible first | exact HB.out | apply below_alloc | apply pw_below_drewN | apply below_drew1) | exact HB.out)) hb); clear HB; have HO352 := n0_; have HB := n1_; clear n0_ n1_; (try clear hb); (try clear hb2); (try clear hk); (try clear hi); (try clear ho0)) | (go_at_call 26; (with_reducible refine (mootmake_Below.calls a1 6000 t353 _ A6.out).mono ?_); rintro e w' ⟨rfl, ⟨nd, rfl⟩⟩; (try first | exact ⟨rfl, _, World.drewN_drewN _ _ _⟩ | exact ⟨rfl, _, Eq.trans (World.drewN_drewN _ _ _) (congrArg (World.drewN _) (Nat.add_assoc _ _ _))⟩); obtain ⟨Ao11, co11, eo11⟩ := Kd.R_slice HO352.out; subst eo11) | (go_at_call 33; (with_reducible refine (cap_Budget.calls k _ _ t350 t353 t354 t355 _ ?side1 ?side2 A7.out).mono ?_); (case side1 => repeat (first | exact (Kd.R_reads' HO352.out).2.2 | (with_reducible refine Kd.C_alloc ?_ _) | (with_reducible refine Kd.C_drewN ?_ _) | (with_reducible refine Kd.C_drew ?_))); (case side2 => exact (Kd.R_reads' HO352.out).2.1); rintro e w12 ⟨v356, rfl, ho0, hb⟩; have n0_ := Aside0.mk (Kd.R_below (by (with_reducible repeat (first | apply Kd.R_alloc | apply Kd.R_drewN | apply Kd.R_drew)); exact HO352.out) hb); have n1_ := Aside0.mk (Kd.R_lower ho0 (below_size (by repeat (first | (with_reducible first | exact HB.out | apply below_alloc | apply pw_below_drewN | apply below_drew1) | exact HB.out)))); have n2_ := Aside0.mk (below_step (by repeat (first | (with_reducible first | exact HB.out | apply below_alloc | apply pw_below_drewN | apply below_drew1) | exact HB.out)) hb); clear HO352; clear HB; have HO352 := n0_; have HO357 := n1_; have HB := n2_; clear n0_ n1_ n2_; (try clear hb); (try clear hb2); (try clear hk); (try clear hi); (try clear ho0))); go_upto_region 5 with (first | (go_at_call 31; (with_reducible refine (mootkeep4_capped.calls k  true _ A3.out).mono ?_); rintro e w9 ⟨rfl, hb⟩; have n0_ := Aside0.mk (below_step (by repeat (first | (with_reducible first | exact HB.out | apply below_alloc | apply pw_below_drewN | apply below_drew1) | exact HB.out)) hb); clear HB; have HB := n0_; clear n0_; (try clear hb); (try clear hb2); (try clear hk); (try clear hi)) | (go_at_call 32; (with_reducible refine (mootkeep4_Claims.calls k _ _ l0 t350 _ ?side1 ?side2 A5.out).mono ?_); (case side1 => repeat (first | exact (Kd.C_below HR0.out HB.out) | (with_reducible refine Kd.C_alloc ?_ _) | (with_reducible refine Kd.C_drewN ?_ _) | (with_reducible refine Kd.C_drew ?_))); (case side2 => exact HC0.out); rintro e w10 ⟨v351, rfl, ho0, hb⟩; have n0_ := Aside0.mk (Kd.R_lower ho0 (below_size (by repeat (first | (with_reducible first | exact HB.out | apply below_alloc | apply pw_below_drewN | apply below_drew1) | exact HB.out)))); have n1_ := Aside0.mk (below_step (by repeat (first | (with_reducible first | exact HB.out | apply below_alloc | apply pw_below_drewN | apply below_drew1) | exact HB.out)) hb); clear HB; have HO352 := n0_; have HB := n1_; clear n0_ n1_; (try clear hb); (try clear hb2); (try clear hk); (try clear hi); (try clear ho0)) | (go_at_call 26; (with_reducible refine (mootmake_Below.calls a1 6000 t353 _ A6.out).mono ?_); rintro e w' ⟨rfl, ⟨nd, rfl⟩⟩; (try first | exact ⟨rfl, _, World.drewN_drewN _ _ _⟩ | exact ⟨rfl, _, Eq.trans (World.drewN_drewN _ _ _) (congrArg (World.drewN _) (Nat.add_assoc _ _ _))⟩); obtain ⟨Ao11, co11, eo11⟩ := Kd.R_slice HO352.out; subst eo11) | (go_at_call 33; (with_reducible refine (cap_Budget.calls k _ _ t350 t353 t354 t355 _ ?side1 ?side2 A7.out).mono ?_); (case side1 => repeat (first | exact (Kd.R_reads' HO352.out).2.2 | (with_reducible refine Kd.C_alloc ?_ _) | (with_reducible refine Kd.C_drewN ?_ _) | (with_reducible refine Kd.C_drew ?_))); (case side2 => exact (Kd.R_reads' HO352.out).2.1); rintro e w12 ⟨v356, rfl, ho0, hb⟩; have n0_ := Aside0.mk (Kd.R_below (by (with_reducible repeat (first | apply Kd.R_alloc | apply Kd.R_drewN | apply Kd.R_drew)); exact HO352.out) hb); have n1_ := Aside0.mk (Kd.R_lower ho0 (below_size (by repeat (first | (with_reducible first | exact HB.out | apply below_alloc | apply pw_below_drewN | apply below_drew1) | exact HB.out)))); have n2_ := Aside0.mk (below_step (by repeat (first | (with_reducible first | exact HB.out | apply below_alloc | apply pw_below_drewN | apply below_drew1) | exact HB.out)) hb); clear HO352; clear HB; have HO352 := n0_; have HO357 := n1_; have HB := n2_; clear n0_ n1_ n2_; (try clear hb); (try clear hb2); (try clear hk); (try clear hi); (try clear ho0))))
  (try simp only [Act.put, List.setIfInBounds_toArray, List.set_cons_zero, List.set_cons_succ])
  go_cut [31] (fun v31 wc => ∃ (kq : Nat) (x31_7 : Bool), v31 = .bool x31_7 ∧ Aside0 (mootkeep4_CapFair.j0 kq t350 t354 x31_7 = some r) ∧ Aside0 (kq ≤ k) ∧ Aside0 (Kd.R k59 59 wc w.heap.size (fun _ => True) (.slice Ao11 t350.length co11) t350) ∧ Aside0 (Kd.R (Kd.int .i64) 3 wc w.heap.size (fun _ => True) v356 t354) ∧ Aside0 (Below w.heap.size w wc))
  case first =>
   have H := HC8.out
   clear HC8
   by_cases c13 : t355 = 0
   ·rw [if_pos c13] at H
    have c13b0 : (t355 == 0) = true := beq_iff_eq.mpr c13
    have c13b1 : (t355 != 0) = false := bne_eq_false_iff_eq.mpr c13
    clear c13
    (first | rw [c13b0] | (simp only [i64_w, i32_w]; rw [c13b0]) | skip)
    have H' := Aside0.mk H
    clear H
    obtain ⟨Ao14, co14, eo14⟩ := Kd.R_slice HO357.out
    subst eo14
    go_wp2
    repeat (go_quiet (fail); try go_wp2)
    go_meet
    case rel => exact ⟨_, (((t354.length : Int) != (t350.length : Int))), (by first | rfl | (simp; done) | (simp [*]; done)), H', ⟨by first | omega | exact Nat.le_refl _⟩, ⟨by (with_reducible repeat (first | apply Kd.R_alloc | apply Kd.R_drewN | apply Kd.R_drew)); exact HO352.out⟩, ⟨by (with_reducible repeat (first | apply Kd.R_alloc | apply Kd.R_drewN | apply Kd.R_drew)); exact HO357.out⟩, ⟨by repeat (first | (with_reducible first | exact HB.out | apply below_alloc | apply pw_below_drewN | apply below_drew1) | exact HB.out)⟩⟩
   ·rw [if_neg c13] at H
    have c13b0 : (t355 == 0) = false := beq_eq_false_iff_ne.mpr c13
    have c13b1 : (t355 != 0) = true := bne_iff_ne.mpr c13
    (first | rw [c13b0] | (simp only [i64_w, i32_w]; rw [c13b0]) | skip)
    have H' := Aside0.mk H
    clear H
    go_wp2
    repeat (go_quiet (fail); try go_wp2)
    go_meet
    case rel => exact ⟨_, (true), (by first | rfl | (simp; done) | (simp [*]; done)), H', ⟨by first | omega | exact Nat.le_refl _⟩, ⟨by (with_reducible repeat (first | apply Kd.R_alloc | apply Kd.R_drewN | apply Kd.R_drew)); exact HO352.out⟩, ⟨by (with_reducible repeat (first | apply Kd.R_alloc | apply Kd.R_drewN | apply Kd.R_drew)); exact HO357.out⟩, ⟨by repeat (first | (with_reducible first | exact HB.out | apply below_alloc | apply pw_below_drewN | apply below_drew1) | exact HB.out)⟩⟩
  case rest =>
   clear HC8
   try clear c1
   try clear p2
   try clear c4
   try clear p4
   try clear c9
   try clear c13
   try clear c13b0
   try clear c13b1
   obtain ⟨kq, x31_7, rfl, HA, HJ7, HO_5, HO_6, HB⟩ := hcut
   cases kq with
   | zero => exact absurd HA.out (by simp [mootkeep4_CapFair.j0])
   | succ kj7 =>
    have H := HA.out
    clear HA
    simp only [mootkeep4_CapFair.j0] at H
    by_cases c15 : x31_7 = true
    ·subst c15
     have H1 : (some false) = some r := by rw [if_pos rfl] at H; exact H
     clear H
     have H := H1
     clear H1
     obtain rfl := Option.some.inj H
     go_wp2
     repeat (go_quiet (fail); try go_wp2)
     go_ret
     exact ⟨by first | rfl | (simp [errW_none, errW_some] <;> rfl) | (simp [*, errW_none, errW_some] <;> rfl), by repeat (first | (with_reducible first | exact HB.out | apply below_alloc | apply pw_below_drewN | apply below_drew1) | exact HB.out)⟩
    ·replace c15 := Bool.eq_false_iff.mpr c15
     subst c15
     have H1 : (mootkeep4_CapFair.l0 kj7 t350 t354 t350 (t350.length : Int) 0) = some r := by rw [if_neg (show ¬ (false = true) by decide)] at H; exact H
     clear H
     have H := H1
     clear H1
     have H' := Aside0.mk H
     clear H
     go_wp2
     repeat (go_quiet (fail); try go_wp2)
     go_loopg [34] kj7 (fun kq v34 w' => ∃ (x34_2 : Int), v34 = .int .i64 x34_2 ∧ Aside0 (mootkeep4_CapFair.l0 kq t350 t354 t350 (t350.length : Int) x34_2 = some r) ∧ Aside0 (kq ≤ kj7) ∧ Aside0 (Kd.R k59 59 w' w.heap.size (fun _ => True) (.slice Ao11 t350.length co11) t350) ∧ Aside0 (Kd.R (Kd.int .i64) 3 w' w.heap.size (fun _ => True) v356 t354) ∧ Aside0 (Kd.R k59 59 w' w.heap.size (fun _ => True) (.slice Ao11 t350.length co11) t350) ∧ Aside0 (Below w.heap.size w w'))
     case atStart => exact ⟨(0), (by first | rfl | (simp; done) | (simp [*]; done)), H', ⟨Nat.le_refl _⟩, ⟨by (with_reducible repeat (first | apply Kd.R_alloc | apply Kd.R_drewN | apply Kd.R_drew)); exact HO_5.out⟩, ⟨by (with_reducible repeat (first | apply Kd.R_alloc | apply Kd.R_drewN | apply Kd.R_drew)); exact HO_6.out⟩, ⟨by (with_reducible repeat (first | apply Kd.R_alloc | apply Kd.R_drewN | apply Kd.R_drew)); exact HO_5.out⟩, ⟨by repeat (first | (with_reducible first | exact HB.out | apply below_alloc | apply pw_below_drewN | apply below_drew1) | exact HB.out)⟩⟩
     case round =>
      clear H'
      try clear c1
      try clear p2
      try clear c4
      try clear p4
      try clear c9
      try clear c13
      try clear c13b0
      try clear c13b1
      try clear c15
      try clear p2
      try clear p4
      obtain ⟨x34_2, rfl, HA, HK2, HO_5, HO_6, HO_32, HB⟩ := hrel
      cases gk with
      | zero => exact absurd HA.out (by simp [mootkeep4_CapFair.l0])
      | succ k2 =>
       have H := HA.out
       clear HA
       simp only [mootkeep4_CapFair.l0] at H
       by_cases c16 : x34_2 < (t350.length : Int)
       ·rw [if_pos c16] at H
        have c16b0 : decide (x34_2 < (t350.length : Int)) = true := decide_eq_true c16
        clear c16
        by_cases c17 : 0 ≤ x34_2
        ·rw [if_pos c17] at H
         have c17b0 : decide (0 ≤ x34_2) = true := decide_eq_true c17
         clear c17
         by_cases c18 : x34_2 < (t350.length : Int)
         ·rw [if_pos c18] at H
          have c18b0 : decide (x34_2 < (t350.length : Int)) = true := decide_eq_true c18
          clear c18
          have H' := Aside0.mk H
          clear H
          have p358 : 0 ≤ (x34_2 : Int) := of_decide_eq_true (by first | (with_reducible assumption) | assumption)
          have q358 : x34_2 < (t350.length : Int) := of_decide_eq_true (by first | (with_reducible assumption) | assumption)
          obtain ⟨ad358, e358, hx358_0, hx358_1, hx358_2, hx358_3, hx358_4⟩ := at_T59 (Kd.R_reads' HO_32.out).2.2 x34_2 p358 q358
          cases e358
          replace p358 := eq_true p358
          replace q358 := eq_true q358
          go_wp2_with (first | ((with_reducible refine gate_dst (N := 9) rfl ?_); (try (refine gate_guard (by rfl) ?_; dsimp only)); refine box_event ?hg (N := 9) ?hd (cs := #[.int .i64 0, .int .i64 0, .int .i64 0, .int .i64 0, .int .i64 0]) (t := 59) ?hr ?_; (case hd => rfl); (case hg => rfl); (case hr => first | (go_simp; done) | (go_simp; rfl)); intro gb359 hg w19 hbox hb; have n0_ := Aside0.mk (Kd.R_below (Kd.R_elderB (by (with_reducible repeat (first | apply Kd.R_alloc | apply Kd.R_drewN | apply Kd.R_drew)); exact HO_5.out) gb359 (Nat.le_of_eq hg.symm)) hb); have n1_ := Aside0.mk (Kd.R_below (by (with_reducible repeat (first | apply Kd.R_alloc | apply Kd.R_drewN | apply Kd.R_drew)); exact HO_6.out) hb); have n2_ := Aside0.mk (Kd.R_below (Kd.R_elderB (by (with_reducible repeat (first | apply Kd.R_alloc | apply Kd.R_drewN | apply Kd.R_drew)); exact HO_32.out) gb359 (Nat.le_of_eq hg.symm)) hb); have n3_ := Aside0.mk (below_step (by repeat (first | (with_reducible first | exact HB.out | apply below_alloc | apply pw_below_drewN | apply below_drew1) | exact HB.out)) hb); have n4_ := Aside0.mk (hbox); have n5_ := Aside0.mk ((by rw [hg]; exact (below_size (by repeat (first | (with_reducible first | exact HB.out | apply below_alloc | apply pw_below_drewN | apply below_drew1) | exact HB.out))) : w.heap.size ≤ gb359)); have n6_ := Aside0.mk ((by rw [hg]; exact (below_size (by repeat (first | (with_reducible first | exact HB.out | apply below_alloc | apply pw_below_drewN | apply below_drew1) | exact HB.out))) : w.heap.size ≤ gb359)); clear HO_5; clear HO_6; clear HO_32; clear HB; have HO_5 := n0_; have HO_6 := n1_; have HO_32 := n2_; have HB := n3_; have BK359 := n4_; have GW359 := n5_; have GE359 := n6_; clear n0_ n1_ n2_ n3_ n4_ n5_ n6_; clear hb hbox hg; have hcz20_0 : w19.cell? ⟨gb359, 0, none⟩ = some (.int .i64 0) := (blk_cell BK359.out 0).trans rfl; have hcz20_1 : w19.cell? ⟨gb359, 1, none⟩ = some (.int .i64 0) := (blk_cell BK359.out 1).trans rfl; have hcz20_2 : w19.cell? ⟨gb359, 2, none⟩ = some (.int .i64 0) := (blk_cell BK359.out 2).trans rfl; have hcz20_3 : w19.cell? ⟨gb359, 3, none⟩ = some (.int .i64 0) := (blk_cell BK359.out 3).trans rfl; have hcz20_4 : w19.cell? ⟨gb359, 4, none⟩ = some (.int .i64 0) := (blk_cell BK359.out 4).trans rfl; have hfz20_0 := blk_frozen BK359.out 0; have hfz20_1 := blk_frozen BK359.out 1; have hfz20_2 := blk_frozen BK359.out 2; have hfz20_3 := blk_frozen BK359.out 3; have hfz20_4 := blk_frozen BK359.out 4))
          repeat (go_quiet (first | ((with_reducible refine gate_dst (N := 9) rfl ?_); (try (refine gate_guard (by rfl) ?_; dsimp only)); refine box_event ?hg (N := 9) ?hd (cs := #[.int .i64 0, .int .i64 0, .int .i64 0, .int .i64 0, .int .i64 0]) (t := 59) ?hr ?_; (case hd => rfl); (case hg => rfl); (case hr => first | (go_simp; done) | (go_simp; rfl)); intro gb359 hg w19 hbox hb; have n0_ := Aside0.mk (Kd.R_below (Kd.R_elderB (by (with_reducible repeat (first | apply Kd.R_alloc | apply Kd.R_drewN | apply Kd.R_drew)); exact HO_5.out) gb359 (Nat.le_of_eq hg.symm)) hb); have n1_ := Aside0.mk (Kd.R_below (by (with_reducible repeat (first | apply Kd.R_alloc | apply Kd.R_drewN | apply Kd.R_drew)); exact HO_6.out) hb); have n2_ := Aside0.mk (Kd.R_below (Kd.R_elderB (by (with_reducible repeat (first | apply Kd.R_alloc | apply Kd.R_drewN | apply Kd.R_drew)); exact HO_32.out) gb359 (Nat.le_of_eq hg.symm)) hb); have n3_ := Aside0.mk (below_step (by repeat (first | (with_reducible first | exact HB.out | apply below_alloc | apply pw_below_drewN | apply below_drew1) | exact HB.out)) hb); have n4_ := Aside0.mk (hbox); have n5_ := Aside0.mk ((by rw [hg]; exact (below_size (by repeat (first | (with_reducible first | exact HB.out | apply below_alloc | apply pw_below_drewN | apply below_drew1) | exact HB.out))) : w.heap.size ≤ gb359)); have n6_ := Aside0.mk ((by rw [hg]; exact (below_size (by repeat (first | (with_reducible first | exact HB.out | apply below_alloc | apply pw_below_drewN | apply below_drew1) | exact HB.out))) : w.heap.size ≤ gb359)); clear HO_5; clear HO_6; clear HO_32; clear HB; have HO_5 := n0_; have HO_6 := n1_; have HO_32 := n2_; have HB := n3_; have BK359 := n4_; have GW359 := n5_; have GE359 := n6_; clear n0_ n1_ n2_ n3_ n4_ n5_ n6_; clear hb hbox hg; have hcz20_0 : w19.cell? ⟨gb359, 0, none⟩ = some (.int .i64 0) := (blk_cell BK359.out 0).trans rfl; have hcz20_1 : w19.cell? ⟨gb359, 1, none⟩ = some (.int .i64 0) := (blk_cell BK359.out 1).trans rfl; have hcz20_2 : w19.cell? ⟨gb359, 2, none⟩ = some (.int .i64 0) := (blk_cell BK359.out 2).trans rfl; have hcz20_3 : w19.cell? ⟨gb359, 3, none⟩ = some (.int .i64 0) := (blk_cell BK359.out 3).trans rfl; have hcz20_4 : w19.cell? ⟨gb359, 4, none⟩ = some (.int .i64 0) := (blk_cell BK359.out 4).trans rfl; have hfz20_0 := blk_frozen BK359.out 0; have hfz20_1 := blk_frozen BK359.out 1; have hfz20_2 := blk_frozen BK359.out 2; have hfz20_3 := blk_frozen BK359.out 3; have hfz20_4 := blk_frozen BK359.out 4)); try go_wp2_with (first | ((with_reducible refine gate_dst (N := 9) rfl ?_); (try (refine gate_guard (by rfl) ?_; dsimp only)); refine box_event ?hg (N := 9) ?hd (cs := #[.int .i64 0, .int .i64 0, .int .i64 0, .int .i64 0, .int .i64 0]) (t := 59) ?hr ?_; (case hd => rfl); (case hg => rfl); (case hr => first | (go_simp; done) | (go_simp; rfl)); intro gb359 hg w19 hbox hb; have n0_ := Aside0.mk (Kd.R_below (Kd.R_elderB (by (with_reducible repeat (first | apply Kd.R_alloc | apply Kd.R_drewN | apply Kd.R_drew)); exact HO_5.out) gb359 (Nat.le_of_eq hg.symm)) hb); have n1_ := Aside0.mk (Kd.R_below (by (with_reducible repeat (first | apply Kd.R_alloc | apply Kd.R_drewN | apply Kd.R_drew)); exact HO_6.out) hb); have n2_ := Aside0.mk (Kd.R_below (Kd.R_elderB (by (with_reducible repeat (first | apply Kd.R_alloc | apply Kd.R_drewN | apply Kd.R_drew)); exact HO_32.out) gb359 (Nat.le_of_eq hg.symm)) hb); have n3_ := Aside0.mk (below_step (by repeat (first | (with_reducible first | exact HB.out | apply below_alloc | apply pw_below_drewN | apply below_drew1) | exact HB.out)) hb); have n4_ := Aside0.mk (hbox); have n5_ := Aside0.mk ((by rw [hg]; exact (below_size (by repeat (first | (with_reducible first | exact HB.out | apply below_alloc | apply pw_below_drewN | apply below_drew1) | exact HB.out))) : w.heap.size ≤ gb359)); have n6_ := Aside0.mk ((by rw [hg]; exact (below_size (by repeat (first | (with_reducible first | exact HB.out | apply below_alloc | apply pw_below_drewN | apply below_drew1) | exact HB.out))) : w.heap.size ≤ gb359)); clear HO_5; clear HO_6; clear HO_32; clear HB; have HO_5 := n0_; have HO_6 := n1_; have HO_32 := n2_; have HB := n3_; have BK359 := n4_; have GW359 := n5_; have GE359 := n6_; clear n0_ n1_ n2_ n3_ n4_ n5_ n6_; clear hb hbox hg; have hcz20_0 : w19.cell? ⟨gb359, 0, none⟩ = some (.int .i64 0) := (blk_cell BK359.out 0).trans rfl; have hcz20_1 : w19.cell? ⟨gb359, 1, none⟩ = some (.int .i64 0) := (blk_cell BK359.out 1).trans rfl; have hcz20_2 : w19.cell? ⟨gb359, 2, none⟩ = some (.int .i64 0) := (blk_cell BK359.out 2).trans rfl; have hcz20_3 : w19.cell? ⟨gb359, 3, none⟩ = some (.int .i64 0) := (blk_cell BK359.out 3).trans rfl; have hcz20_4 : w19.cell? ⟨gb359, 4, none⟩ = some (.int .i64 0) := (blk_cell BK359.out 4).trans rfl; have hfz20_0 := blk_frozen BK359.out 0; have hfz20_1 := blk_frozen BK359.out 1; have hfz20_2 := blk_frozen BK359.out 2; have hfz20_3 := blk_frozen BK359.out 3; have hfz20_4 := blk_frozen BK359.out 4)))
          go_loopg [41] k2 (fun kq v41 w' => ∃ (x41_3 : Int), v41 = .int .i64 x41_3 ∧ Aside0 (mootkeep4_CapFair.l1 kq t350 t354 x34_2 t350 (t350.length : Int) x34_2 t350 (t350.length : Int) x41_3 ((rd_T59 t350 x34_2).f0) ((rd_T59 t350 x34_2).f1) ((rd_T59 t350 x34_2).f2) ((rd_T59 t350 x34_2).f3) ((rd_T59 t350 x34_2).f4) = some r) ∧ Aside0 (kq ≤ k2) ∧ Aside0 (Kd.R k59 59 w' w.heap.size (fun k_ => k_ ≠ gb359) (.slice (some ad358) t350.length co11) t350) ∧ Aside0 (Kd.R (Kd.int .i64) 3 w' w.heap.size (fun _ => True) v356 t354) ∧ Aside0 (Kd.R k59 59 w' w.heap.size (fun k_ => k_ ≠ gb359) (.slice (some ad358) t350.length co11) t350) ∧ Aside0 (Kd.R k59 59 w' w.heap.size (fun k_ => k_ ≠ gb359) (.slice (some ad358) t350.length co11) t350) ∧ Aside0 (w'.heap[gb359]? = some (.cells #[.int .i64 ((rd_T59 t350 x34_2).f0), .int .i64 ((rd_T59 t350 x34_2).f1), .int .i64 ((rd_T59 t350 x34_2).f2), .int .i64 ((rd_T59 t350 x34_2).f3), .int .i64 ((rd_T59 t350 x34_2).f4)] 59 (0, 0))) ∧ Aside0 (Below w.heap.size w w'))
          case atStart => exact ⟨(0), (by first | rfl | (simp; done) | (simp [*]; done)), H', ⟨Nat.le_refl _⟩, ⟨by (with_reducible repeat (first | apply Kd.R_alloc | apply Kd.R_drewN | apply Kd.R_drew)); exact Kd.R_mono (Kd.R_far (p := ⟨gb359, 4, none⟩) (Kd.R_far (p := ⟨gb359, 3, none⟩) (Kd.R_far (p := ⟨gb359, 2, none⟩) (Kd.R_far (p := ⟨gb359, 1, none⟩) (Kd.R_far (p := ⟨gb359, 0, none⟩) (Kd.R_mono HO_5.out (fun k_ hk => (⟨hk, hk.2⟩ : _ ∧ k_ ≠ gb359))) (fun _ hk => hk.2) (.int .i64 ((rd_T59 t350 x34_2).f0))) (fun _ hk => hk.2) (.int .i64 ((rd_T59 t350 x34_2).f1))) (fun _ hk => hk.2) (.int .i64 ((rd_T59 t350 x34_2).f2))) (fun _ hk => hk.2) (.int .i64 ((rd_T59 t350 x34_2).f3))) (fun _ hk => hk.2) (.int .i64 ((rd_T59 t350 x34_2).f4))) (fun _ hk => hk.1.2)⟩, ⟨by (with_reducible repeat (first | apply Kd.R_alloc | apply Kd.R_drewN | apply Kd.R_drew)); exact Kd.R_mono (Kd.R_far (p := ⟨gb359, 4, none⟩) (Kd.R_far (p := ⟨gb359, 3, none⟩) (Kd.R_far (p := ⟨gb359, 2, none⟩) (Kd.R_far (p := ⟨gb359, 1, none⟩) (Kd.R_far (p := ⟨gb359, 0, none⟩) (Kd.R_types HO_6.out BK359.out (by decide)) (fun _ hk => hk.2) (.int .i64 ((rd_T59 t350 x34_2).f0))) (fun _ hk => hk.2) (.int .i64 ((rd_T59 t350 x34_2).f1))) (fun _ hk => hk.2) (.int .i64 ((rd_T59 t350 x34_2).f2))) (fun _ hk => hk.2) (.int .i64 ((rd_T59 t350 x34_2).f3))) (fun _ hk => hk.2) (.int .i64 ((rd_T59 t350 x34_2).f4))) (fun _ hk => trivial)⟩, ⟨by (with_reducible repeat (first | apply Kd.R_alloc | apply Kd.R_drewN | apply Kd.R_drew)); exact Kd.R_mono (Kd.R_far (p := ⟨gb359, 4, none⟩) (Kd.R_far (p := ⟨gb359, 3, none⟩) (Kd.R_far (p := ⟨gb359, 2, none⟩) (Kd.R_far (p := ⟨gb359, 1, none⟩) (Kd.R_far (p := ⟨gb359, 0, none⟩) (Kd.R_mono HO_32.out (fun k_ hk => (⟨hk, hk.2⟩ : _ ∧ k_ ≠ gb359))) (fun _ hk => hk.2) (.int .i64 ((rd_T59 t350 x34_2).f0))) (fun _ hk => hk.2) (.int .i64 ((rd_T59 t350 x34_2).f1))) (fun _ hk => hk.2) (.int .i64 ((rd_T59 t350 x34_2).f2))) (fun _ hk => hk.2) (.int .i64 ((rd_T59 t350 x34_2).f3))) (fun _ hk => hk.2) (.int .i64 ((rd_T59 t350 x34_2).f4))) (fun _ hk => hk.1.2)⟩, ⟨by (with_reducible repeat (first | apply Kd.R_alloc | apply Kd.R_drewN | apply Kd.R_drew)); exact Kd.R_mono (Kd.R_far (p := ⟨gb359, 4, none⟩) (Kd.R_far (p := ⟨gb359, 3, none⟩) (Kd.R_far (p := ⟨gb359, 2, none⟩) (Kd.R_far (p := ⟨gb359, 1, none⟩) (Kd.R_far (p := ⟨gb359, 0, none⟩) (Kd.R_mono HO_5.out (fun k_ hk => (⟨hk, hk.2⟩ : _ ∧ k_ ≠ gb359))) (fun _ hk => hk.2) (.int .i64 ((rd_T59 t350 x34_2).f0))) (fun _ hk => hk.2) (.int .i64 ((rd_T59 t350 x34_2).f1))) (fun _ hk => hk.2) (.int .i64 ((rd_T59 t350 x34_2).f2))) (fun _ hk => hk.2) (.int .i64 ((rd_T59 t350 x34_2).f3))) (fun _ hk => hk.2) (.int .i64 ((rd_T59 t350 x34_2).f4))) (fun _ hk => hk.1.2)⟩, ⟨by (with_reducible repeat (first | refine blk_drewN ?_ _ | refine blk_drew ?_ | refine blk_alloc ?_ _)); refine blk_put (cs := #[.int .i64 ((rd_T59 t350 x34_2).f0), .int .i64 ((rd_T59 t350 x34_2).f1), .int .i64 ((rd_T59 t350 x34_2).f2), .int .i64 ((rd_T59 t350 x34_2).f3), .int .i64 0]) ?_ 4 _ rfl; (with_reducible repeat (first | refine blk_drewN ?_ _ | refine blk_drew ?_ | refine blk_alloc ?_ _)); refine blk_put (cs := #[.int .i64 ((rd_T59 t350 x34_2).f0), .int .i64 ((rd_T59 t350 x34_2).f1), .int .i64 ((rd_T59 t350 x34_2).f2), .int .i64 0, .int .i64 0]) ?_ 3 _ rfl; (with_reducible repeat (first | refine blk_drewN ?_ _ | refine blk_drew ?_ | refine blk_alloc ?_ _)); refine blk_put (cs := #[.int .i64 ((rd_T59 t350 x34_2).f0), .int .i64 ((rd_T59 t350 x34_2).f1), .int .i64 0, .int .i64 0, .int .i64 0]) ?_ 2 _ rfl; (with_reducible repeat (first | refine blk_drewN ?_ _ | refine blk_drew ?_ | refine blk_alloc ?_ _)); refine blk_put (cs := #[.int .i64 ((rd_T59 t350 x34_2).f0), .int .i64 0, .int .i64 0, .int .i64 0, .int .i64 0]) ?_ 1 _ rfl; (with_reducible repeat (first | refine blk_drewN ?_ _ | refine blk_drew ?_ | refine blk_alloc ?_ _)); refine blk_put (cs := #[.int .i64 0, .int .i64 0, .int .i64 0, .int .i64 0, .int .i64 0]) ?_ 0 _ rfl; (with_reducible repeat (first | refine blk_drewN ?_ _ | refine blk_drew ?_ | refine blk_alloc ?_ _)); exact BK359.out⟩, ⟨by repeat (first | (with_reducible first | exact HB.out | apply below_alloc | apply pw_below_drewN | apply below_drew1 | refine below_set ?_ GE359.out) | exact HB.out)⟩⟩
          case round =>
           clear H'
           try clear c1
           try clear p2
           try clear p3
           try clear q3
           try clear hx3
           try clear c4
           try clear p4
           try clear c9
           try clear c13
           try clear c13b0
           try clear c13b1
           try clear c15
           try clear c16
           try clear c16b0
           try clear c17
           try clear c17b0
           try clear c18
           try clear c18b0
           try clear hcz20_0
           try clear hcz20_1
           try clear hcz20_2
           try clear hcz20_3
           try clear hcz20_4
           try clear hfz20_0
           try clear hfz20_1
           try clear hfz20_2
           try clear hfz20_3
           try clear hfz20_4
           try clear hx358_0
           try clear hx358_1
           try clear hx358_2
           try clear hx358_3
           try clear hx358_4
           try clear p2
           try clear p358
           try clear p4
           try clear q358
           obtain ⟨x41_3, rfl, HA, HK3, HO_5, HO_6, HO_32, HO_39, BK359, HB⟩ := hrel
           cases gk with
           | zero => exact absurd HA.out (by simp [mootkeep4_CapFair.l1])
           | succ k3 =>
            have H := HA.out
            clear HA
            simp only [mootkeep4_CapFair.l1] at H
            by_cases c21 : x41_3 < (t350.length : Int)
            ·rw [if_pos c21] at H
             have c21b0 : decide (x41_3 < (t350.length : Int)) = true := decide_eq_true c21
             clear c21
             by_cases c22 : 0 ≤ x41_3
             ·rw [if_pos c22] at H
              have c22b0 : decide (0 ≤ x41_3) = true := decide_eq_true c22
              clear c22
              by_cases c23 : x41_3 < (t350.length : Int)
              ·rw [if_pos c23] at H
               have c23b0 : decide (x41_3 < (t350.length : Int)) = true := decide_eq_true c23
               clear c23
               have HC24 := Aside0.mk H
               clear H
               have p360 : 0 ≤ (x41_3 : Int) := of_decide_eq_true (by first | (with_reducible assumption) | assumption)
               have q360 : x41_3 < (t350.length : Int) := of_decide_eq_true (by first | (with_reducible assumption) | assumption)
               obtain ⟨ad360, e360, hx360_0, hx360_1, hx360_2, hx360_3, hx360_4⟩ := at_T59 (Kd.R_reads' HO_39.out).2.2 x41_3 p360 q360
               obtain rfl : ad358 = ad360 := (by injection e360)
               replace p360 := eq_true p360
               replace q360 := eq_true q360
               go_upto_region 13 with (first | ((with_reducible refine gate_dst (N := 11) rfl ?_); (try (refine gate_guard (by rfl) ?_; dsimp only)); refine box_event ?hg (N := 11) ?hd (cs := #[.int .i64 0, .int .i64 0, .int .i64 0, .int .i64 0, .int .i64 0]) (t := 59) ?hr ?_; (case hd => rfl); (case hg => rfl); (case hr => first | (go_simp; done) | (go_simp; rfl)); intro gb361 hg w25 hbox hb; have n0_ := Aside0.mk (Kd.R_below (Kd.R_elderB (by (with_reducible repeat (first | apply Kd.R_alloc | apply Kd.R_drewN | apply Kd.R_drew)); exact HO_5.out) gb361 (Nat.le_of_eq hg.symm)) hb); have n1_ := Aside0.mk (Kd.R_below (by (with_reducible repeat (first | apply Kd.R_alloc | apply Kd.R_drewN | apply Kd.R_drew)); exact HO_6.out) hb); have n2_ := Aside0.mk (Kd.R_below (Kd.R_elderB (by (with_reducible repeat (first | apply Kd.R_alloc | apply Kd.R_drewN | apply Kd.R_drew)); exact HO_32.out) gb361 (Nat.le_of_eq hg.symm)) hb); have n3_ := Aside0.mk (Kd.R_below (Kd.R_elderB (by (with_reducible repeat (first | apply Kd.R_alloc | apply Kd.R_drewN | apply Kd.R_drew)); exact HO_39.out) gb361 (Nat.le_of_eq hg.symm)) hb); have n4_ := Aside0.mk (blk_below (g := gb359) (o := .cells #[.int .i64 ((rd_T59 t350 x34_2).f0), .int .i64 ((rd_T59 t350 x34_2).f1), .int .i64 ((rd_T59 t350 x34_2).f2), .int .i64 ((rd_T59 t350 x34_2).f3), .int .i64 ((rd_T59 t350 x34_2).f4)] 59 (0, 0)) (by (with_reducible repeat (first | refine blk_drewN ?_ _ | refine blk_drew ?_ | refine blk_alloc ?_ _)); exact BK359.out) hb); have n5_ := Aside0.mk (below_step (by repeat (first | (with_reducible first | exact HB.out | apply below_alloc | apply pw_below_drewN | apply below_drew1 | refine below_set ?_ GE359.out) | exact HB.out)) hb); have n6_ := Aside0.mk (hbox); have n7_ := Aside0.mk ((by rw [hg]; exact (below_size (by repeat (first | (with_reducible first | exact HB.out | apply below_alloc | apply pw_below_drewN | apply below_drew1 | refine below_set ?_ GE359.out) | exact HB.out))) : w.heap.size ≤ gb361)); have n8_ := Aside0.mk ((by rw [hg]; exact (below_size (by repeat (first | (with_reducible first | exact HB.out | apply below_alloc | apply pw_below_drewN | apply below_drew1 | refine below_set ?_ GE359.out) | exact HB.out))) : w.heap.size ≤ gb361)); have n9_ := Aside0.mk ((by rw [hg]; exact Nat.ne_of_lt (blk_lt (g := gb359) (o := .cells #[.int .i64 ((rd_T59 t350 x34_2).f0), .int .i64 ((rd_T59 t350 x34_2).f1), .int .i64 ((rd_T59 t350 x34_2).f2), .int .i64 ((rd_T59 t350 x34_2).f3), .int .i64 ((rd_T59 t350 x34_2).f4)] 59 (0, 0)) (by (with_reducible repeat (first | refine blk_drewN ?_ _ | refine blk_drew ?_ | refine blk_alloc ?_ _)); exact BK359.out)) : gb359 ≠ gb361)); have n10_ := Aside0.mk ((by rw [hg]; exact Nat.ne_of_gt (blk_lt (g := gb359) (o := .cells #[.int .i64 ((rd_T59 t350 x34_2).f0), .int .i64 ((rd_T59 t350 x34_2).f1), .int .i64 ((rd_T59 t350 x34_2).f2), .int .i64 ((rd_T59 t350 x34_2).f3), .int .i64 ((rd_T59 t350 x34_2).f4)] 59 (0, 0)) (by (with_reducible repeat (first | refine blk_drewN ?_ _ | refine blk_drew ?_ | refine blk_alloc ?_ _)); exact BK359.out)) : gb361 ≠ gb359)); clear HO_5; clear HO_6; clear HO_32; clear HO_39; clear BK359; clear HB; have HO_5 := n0_; have HO_6 := n1_; have HO_32 := n2_; have HO_39 := n3_; have BK359 := n4_; have HB := n5_; have BK361 := n6_; have GW361 := n7_; have GE361 := n8_; have NB359_361 := n9_; have NB361_359 := n10_; clear n0_ n1_ n2_ n3_ n4_ n5_ n6_ n7_ n8_ n9_ n10_; clear hb hbox hg; have hnb26 := NB361_359.out; have hnc26 := NB359_361.out; have hcz27_0 : w25.cell? ⟨gb361, 0, none⟩ = some (.int .i64 0) := (blk_cell BK361.out 0).trans rfl; have hcz27_1 : w25.cell? ⟨gb361, 1, none⟩ = some (.int .i64 0) := (blk_cell BK361.out 1).trans rfl; have hcz27_2 : w25.cell? ⟨gb361, 2, none⟩ = some (.int .i64 0) := (blk_cell BK361.out 2).trans rfl; have hcz27_3 : w25.cell? ⟨gb361, 3, none⟩ = some (.int .i64 0) := (blk_cell BK361.out 3).trans rfl; have hcz27_4 : w25.cell? ⟨gb361, 4, none⟩ = some (.int .i64 0) := (blk_cell BK361.out 4).trans rfl; have hfz27_0 := blk_frozen BK361.out 0; have hfz27_1 := blk_frozen BK361.out 1; have hfz27_2 := blk_frozen BK361.out 2; have hfz27_3 := blk_frozen BK361.out 3; have hfz27_4 := blk_frozen BK361.out 4))
               repeat (go_quiet (first | ((with_reducible refine gate_dst (N := 11) rfl ?_); (try (refine gate_guard (by rfl) ?_; dsimp only)); refine box_event ?hg (N := 11) ?hd (cs := #[.int .i64 0, .int .i64 0, .int .i64 0, .int .i64 0, .int .i64 0]) (t := 59) ?hr ?_; (case hd => rfl); (case hg => rfl); (case hr => first | (go_simp; done) | (go_simp; rfl)); intro gb361 hg w25 hbox hb; have n0_ := Aside0.mk (Kd.R_below (Kd.R_elderB (by (with_reducible repeat (first | apply Kd.R_alloc | apply Kd.R_drewN | apply Kd.R_drew)); exact HO_5.out) gb361 (Nat.le_of_eq hg.symm)) hb); have n1_ := Aside0.mk (Kd.R_below (by (with_reducible repeat (first | apply Kd.R_alloc | apply Kd.R_drewN | apply Kd.R_drew)); exact HO_6.out) hb); have n2_ := Aside0.mk (Kd.R_below (Kd.R_elderB (by (with_reducible repeat (first | apply Kd.R_alloc | apply Kd.R_drewN | apply Kd.R_drew)); exact HO_32.out) gb361 (Nat.le_of_eq hg.symm)) hb); have n3_ := Aside0.mk (Kd.R_below (Kd.R_elderB (by (with_reducible repeat (first | apply Kd.R_alloc | apply Kd.R_drewN | apply Kd.R_drew)); exact HO_39.out) gb361 (Nat.le_of_eq hg.symm)) hb); have n4_ := Aside0.mk (blk_below (g := gb359) (o := .cells #[.int .i64 ((rd_T59 t350 x34_2).f0), .int .i64 ((rd_T59 t350 x34_2).f1), .int .i64 ((rd_T59 t350 x34_2).f2), .int .i64 ((rd_T59 t350 x34_2).f3), .int .i64 ((rd_T59 t350 x34_2).f4)] 59 (0, 0)) (by (with_reducible repeat (first | refine blk_drewN ?_ _ | refine blk_drew ?_ | refine blk_alloc ?_ _)); exact BK359.out) hb); have n5_ := Aside0.mk (below_step (by repeat (first | (with_reducible first | exact HB.out | apply below_alloc | apply pw_below_drewN | apply below_drew1 | refine below_set ?_ GE359.out) | exact HB.out)) hb); have n6_ := Aside0.mk (hbox); have n7_ := Aside0.mk ((by rw [hg]; exact (below_size (by repeat (first | (with_reducible first | exact HB.out | apply below_alloc | apply pw_below_drewN | apply below_drew1 | refine below_set ?_ GE359.out) | exact HB.out))) : w.heap.size ≤ gb361)); have n8_ := Aside0.mk ((by rw [hg]; exact (below_size (by repeat (first | (with_reducible first | exact HB.out | apply below_alloc | apply pw_below_drewN | apply below_drew1 | refine below_set ?_ GE359.out) | exact HB.out))) : w.heap.size ≤ gb361)); have n9_ := Aside0.mk ((by rw [hg]; exact Nat.ne_of_lt (blk_lt (g := gb359) (o := .cells #[.int .i64 ((rd_T59 t350 x34_2).f0), .int .i64 ((rd_T59 t350 x34_2).f1), .int .i64 ((rd_T59 t350 x34_2).f2), .int .i64 ((rd_T59 t350 x34_2).f3), .int .i64 ((rd_T59 t350 x34_2).f4)] 59 (0, 0)) (by (with_reducible repeat (first | refine blk_drewN ?_ _ | refine blk_drew ?_ | refine blk_alloc ?_ _)); exact BK359.out)) : gb359 ≠ gb361)); have n10_ := Aside0.mk ((by rw [hg]; exact Nat.ne_of_gt (blk_lt (g := gb359) (o := .cells #[.int .i64 ((rd_T59 t350 x34_2).f0), .int .i64 ((rd_T59 t350 x34_2).f1), .int .i64 ((rd_T59 t350 x34_2).f2), .int .i64 ((rd_T59 t350 x34_2).f3), .int .i64 ((rd_T59 t350 x34_2).f4)] 59 (0, 0)) (by (with_reducible repeat (first | refine blk_drewN ?_ _ | refine blk_drew ?_ | refine blk_alloc ?_ _)); exact BK359.out)) : gb361 ≠ gb359)); clear HO_5; clear HO_6; clear HO_32; clear HO_39; clear BK359; clear HB; have HO_5 := n0_; have HO_6 := n1_; have HO_32 := n2_; have HO_39 := n3_; have BK359 := n4_; have HB := n5_; have BK361 := n6_; have GW361 := n7_; have GE361 := n8_; have NB359_361 := n9_; have NB361_359 := n10_; clear n0_ n1_ n2_ n3_ n4_ n5_ n6_ n7_ n8_ n9_ n10_; clear hb hbox hg; have hnb26 := NB361_359.out; have hnc26 := NB359_361.out; have hcz27_0 : w25.cell? ⟨gb361, 0, none⟩ = some (.int .i64 0) := (blk_cell BK361.out 0).trans rfl; have hcz27_1 : w25.cell? ⟨gb361, 1, none⟩ = some (.int .i64 0) := (blk_cell BK361.out 1).trans rfl; have hcz27_2 : w25.cell? ⟨gb361, 2, none⟩ = some (.int .i64 0) := (blk_cell BK361.out 2).trans rfl; have hcz27_3 : w25.cell? ⟨gb361, 3, none⟩ = some (.int .i64 0) := (blk_cell BK361.out 3).trans rfl; have hcz27_4 : w25.cell? ⟨gb361, 4, none⟩ = some (.int .i64 0) := (blk_cell BK361.out 4).trans rfl; have hfz27_0 := blk_frozen BK361.out 0; have hfz27_1 := blk_frozen BK361.out 1; have hfz27_2 := blk_frozen BK361.out 2; have hfz27_3 := blk_frozen BK361.out 3; have hfz27_4 := blk_frozen BK361.out 4)); go_upto_region 13 with (first | ((with_reducible refine gate_dst (N := 11) rfl ?_); (try (refine gate_guard (by rfl) ?_; dsimp only)); refine box_event ?hg (N := 11) ?hd (cs := #[.int .i64 0, .int .i64 0, .int .i64 0, .int .i64 0, .int .i64 0]) (t := 59) ?hr ?_; (case hd => rfl); (case hg => rfl); (case hr => first | (go_simp; done) | (go_simp; rfl)); intro gb361 hg w25 hbox hb; have n0_ := Aside0.mk (Kd.R_below (Kd.R_elderB (by (with_reducible repeat (first | apply Kd.R_alloc | apply Kd.R_drewN | apply Kd.R_drew)); exact HO_5.out) gb361 (Nat.le_of_eq hg.symm)) hb); have n1_ := Aside0.mk (Kd.R_below (by (with_reducible repeat (first | apply Kd.R_alloc | apply Kd.R_drewN | apply Kd.R_drew)); exact HO_6.out) hb); have n2_ := Aside0.mk (Kd.R_below (Kd.R_elderB (by (with_reducible repeat (first | apply Kd.R_alloc | apply Kd.R_drewN | apply Kd.R_drew)); exact HO_32.out) gb361 (Nat.le_of_eq hg.symm)) hb); have n3_ := Aside0.mk (Kd.R_below (Kd.R_elderB (by (with_reducible repeat (first | apply Kd.R_alloc | apply Kd.R_drewN | apply Kd.R_drew)); exact HO_39.out) gb361 (Nat.le_of_eq hg.symm)) hb); have n4_ := Aside0.mk (blk_below (g := gb359) (o := .cells #[.int .i64 ((rd_T59 t350 x34_2).f0), .int .i64 ((rd_T59 t350 x34_2).f1), .int .i64 ((rd_T59 t350 x34_2).f2), .int .i64 ((rd_T59 t350 x34_2).f3), .int .i64 ((rd_T59 t350 x34_2).f4)] 59 (0, 0)) (by (with_reducible repeat (first | refine blk_drewN ?_ _ | refine blk_drew ?_ | refine blk_alloc ?_ _)); exact BK359.out) hb); have n5_ := Aside0.mk (below_step (by repeat (first | (with_reducible first | exact HB.out | apply below_alloc | apply pw_below_drewN | apply below_drew1 | refine below_set ?_ GE359.out) | exact HB.out)) hb); have n6_ := Aside0.mk (hbox); have n7_ := Aside0.mk ((by rw [hg]; exact (below_size (by repeat (first | (with_reducible first | exact HB.out | apply below_alloc | apply pw_below_drewN | apply below_drew1 | refine below_set ?_ GE359.out) | exact HB.out))) : w.heap.size ≤ gb361)); have n8_ := Aside0.mk ((by rw [hg]; exact (below_size (by repeat (first | (with_reducible first | exact HB.out | apply below_alloc | apply pw_below_drewN | apply below_drew1 | refine below_set ?_ GE359.out) | exact HB.out))) : w.heap.size ≤ gb361)); have n9_ := Aside0.mk ((by rw [hg]; exact Nat.ne_of_lt (blk_lt (g := gb359) (o := .cells #[.int .i64 ((rd_T59 t350 x34_2).f0), .int .i64 ((rd_T59 t350 x34_2).f1), .int .i64 ((rd_T59 t350 x34_2).f2), .int .i64 ((rd_T59 t350 x34_2).f3), .int .i64 ((rd_T59 t350 x34_2).f4)] 59 (0, 0)) (by (with_reducible repeat (first | refine blk_drewN ?_ _ | refine blk_drew ?_ | refine blk_alloc ?_ _)); exact BK359.out)) : gb359 ≠ gb361)); have n10_ := Aside0.mk ((by rw [hg]; exact Nat.ne_of_gt (blk_lt (g := gb359) (o := .cells #[.int .i64 ((rd_T59 t350 x34_2).f0), .int .i64 ((rd_T59 t350 x34_2).f1), .int .i64 ((rd_T59 t350 x34_2).f2), .int .i64 ((rd_T59 t350 x34_2).f3), .int .i64 ((rd_T59 t350 x34_2).f4)] 59 (0, 0)) (by (with_reducible repeat (first | refine blk_drewN ?_ _ | refine blk_drew ?_ | refine blk_alloc ?_ _)); exact BK359.out)) : gb361 ≠ gb359)); clear HO_5; clear HO_6; clear HO_32; clear HO_39; clear BK359; clear HB; have HO_5 := n0_; have HO_6 := n1_; have HO_32 := n2_; have HO_39 := n3_; have BK359 := n4_; have HB := n5_; have BK361 := n6_; have GW361 := n7_; have GE361 := n8_; have NB359_361 := n9_; have NB361_359 := n10_; clear n0_ n1_ n2_ n3_ n4_ n5_ n6_ n7_ n8_ n9_ n10_; clear hb hbox hg; have hnb26 := NB361_359.out; have hnc26 := NB359_361.out; have hcz27_0 : w25.cell? ⟨gb361, 0, none⟩ = some (.int .i64 0) := (blk_cell BK361.out 0).trans rfl; have hcz27_1 : w25.cell? ⟨gb361, 1, none⟩ = some (.int .i64 0) := (blk_cell BK361.out 1).trans rfl; have hcz27_2 : w25.cell? ⟨gb361, 2, none⟩ = some (.int .i64 0) := (blk_cell BK361.out 2).trans rfl; have hcz27_3 : w25.cell? ⟨gb361, 3, none⟩ = some (.int .i64 0) := (blk_cell BK361.out 3).trans rfl; have hcz27_4 : w25.cell? ⟨gb361, 4, none⟩ = some (.int .i64 0) := (blk_cell BK361.out 4).trans rfl; have hfz27_0 := blk_frozen BK361.out 0; have hfz27_1 := blk_frozen BK361.out 1; have hfz27_2 := blk_frozen BK361.out 2; have hfz27_3 := blk_frozen BK361.out 3; have hfz27_4 := blk_frozen BK361.out 4)))
               (try simp only [Act.put, List.setIfInBounds_toArray, List.set_cons_zero, List.set_cons_succ])
               go_cut [66] (fun v66 wc => ∃ (kq : Nat) (x66_23 : Bool), v66 = .bool x66_23 ∧ Aside0 (mootkeep4_CapFair.j3 kq t350 t354 x34_2 x41_3 t350 (t350.length : Int) x34_2 t350 (t350.length : Int) x41_3 x66_23 ((rd_T59 t350 x34_2).f0) ((rd_T59 t350 x34_2).f1) ((rd_T59 t350 x34_2).f2) ((rd_T59 t350 x34_2).f3) ((rd_T59 t350 x34_2).f4) ((rd_T59 t350 x41_3).f0) ((rd_T59 t350 x41_3).f1) ((rd_T59 t350 x41_3).f2) ((rd_T59 t350 x41_3).f3) ((rd_T59 t350 x41_3).f4) = some r) ∧ Aside0 (kq ≤ k3) ∧ Aside0 (Kd.R k59 59 wc w.heap.size (fun k_ => k_ ≠ gb359 ∧ k_ ≠ gb361) (.slice (some ad358) t350.length co11) t350) ∧ Aside0 (Kd.R (Kd.int .i64) 3 wc w.heap.size (fun _ => True) v356 t354) ∧ Aside0 (Kd.R k59 59 wc w.heap.size (fun k_ => k_ ≠ gb359 ∧ k_ ≠ gb361) (.slice (some ad358) t350.length co11) t350) ∧ Aside0 (Kd.R k59 59 wc w.heap.size (fun k_ => k_ ≠ gb359 ∧ k_ ≠ gb361) (.slice (some ad358) t350.length co11) t350) ∧ Aside0 (wc.heap[gb359]? = some (.cells #[.int .i64 ((rd_T59 t350 x34_2).f0), .int .i64 ((rd_T59 t350 x34_2).f1), .int .i64 ((rd_T59 t350 x34_2).f2), .int .i64 ((rd_T59 t350 x34_2).f3), .int .i64 ((rd_T59 t350 x34_2).f4)] 59 (0, 0))) ∧ Aside0 (wc.heap[gb361]? = some (.cells #[.int .i64 ((rd_T59 t350 x41_3).f0), .int .i64 ((rd_T59 t350 x41_3).f1), .int .i64 ((rd_T59 t350 x41_3).f2), .int .i64 ((rd_T59 t350 x41_3).f3), .int .i64 ((rd_T59 t350 x41_3).f4)] 59 (0, 0))) ∧ Aside0 (Below w.heap.size w wc))
               case first =>
                have H := HC24.out
                clear HC24
                by_cases c28 : 0 ≤ x34_2
                ·rw [if_pos c28] at H
                 have c28b0 : decide (0 ≤ x34_2) = true := decide_eq_true c28
                 clear c28
                 (first | rw [c28b0] | (simp only [i64_w, i32_w]; rw [c28b0]) | skip)
                 by_cases c29 : x34_2 < (t354.length : Int)
                 ·rw [if_pos c29] at H
                  have c29b0 : decide (x34_2 < (t354.length : Int)) = true := decide_eq_true c29
                  clear c29
                  by_cases c30 : (rd t354 x34_2) > 0
                  ·rw [if_pos c30] at H
                   have c30b0 : decide (0 < (rd t354 x34_2)) = true := decide_eq_true c30
                   clear c30
                   by_cases c31 : ((rd_T59 t350 x41_3).f3) < ((rd_T59 t350 x34_2).f3)
                   ·rw [if_pos c31] at H
                    have c31b0 : decide (((rd_T59 t350 x41_3).f3) < ((rd_T59 t350 x34_2).f3)) = true := decide_eq_true c31
                    clear c31
                    by_cases c32 : x41_3 < (t354.length : Int)
                    ·rw [if_pos c32] at H
                     have c32b0 : decide (x41_3 < (t354.length : Int)) = true := decide_eq_true c32
                     clear c32
                     have H' := Aside0.mk H
                     clear H
                     obtain ⟨Ao33, co33, eo33⟩ := Kd.R_slice HO_6.out
                     subst eo33
                     have p362 : 0 ≤ (x34_2 : Int) := of_decide_eq_true (by first | (with_reducible assumption) | assumption)
                     have q362 : x34_2 < (t354.length : Int) := of_decide_eq_true (by first | (with_reducible assumption) | assumption)
                     obtain ⟨ad362, e362, hx362_0⟩ := Kd.at_int (Kd.R_reads' HO_6.out).2.2 x34_2 p362 q362
                     cases e362
                     have hn362_0 : ad362.block ≠ gb361 := Kd.own_blk (Kd.R_ne HO_6.out BK361.out (by decide))
                     have hn362_1 : ad362.block ≠ gb361 := Kd.own_blk (Kd.R_ne HO_6.out BK361.out (by decide))
                     have hn362_2 : ad362.block ≠ gb361 := Kd.own_blk (Kd.R_ne HO_6.out BK361.out (by decide))
                     have hn362_3 : ad362.block ≠ gb361 := Kd.own_blk (Kd.R_ne HO_6.out BK361.out (by decide))
                     have hn362_4 : ad362.block ≠ gb361 := Kd.own_blk (Kd.R_ne HO_6.out BK361.out (by decide))
                     replace hx362_0 := (cell_far (p := ⟨gb361, 0, none⟩) (by first | (rw [add_block]; exact hn362_0) | (show (Addr.add _ _).block ≠ _; rw [add_block]; exact hn362_0) | exact hn362_0) (.int .i64 ((rd_T59 t350 x41_3).f0))).trans hx362_0
                     replace hx362_0 := (cell_far (p := ⟨gb361, 1, none⟩) (by first | (rw [add_block]; exact hn362_1) | (show (Addr.add _ _).block ≠ _; rw [add_block]; exact hn362_1) | exact hn362_1) (.int .i64 ((rd_T59 t350 x41_3).f1))).trans hx362_0
                     replace hx362_0 := (cell_far (p := ⟨gb361, 2, none⟩) (by first | (rw [add_block]; exact hn362_2) | (show (Addr.add _ _).block ≠ _; rw [add_block]; exact hn362_2) | exact hn362_2) (.int .i64 ((rd_T59 t350 x41_3).f2))).trans hx362_0
                     replace hx362_0 := (cell_far (p := ⟨gb361, 3, none⟩) (by first | (rw [add_block]; exact hn362_3) | (show (Addr.add _ _).block ≠ _; rw [add_block]; exact hn362_3) | exact hn362_3) (.int .i64 ((rd_T59 t350 x41_3).f3))).trans hx362_0
                     replace hx362_0 := (cell_far (p := ⟨gb361, 4, none⟩) (by first | (rw [add_block]; exact hn362_4) | (show (Addr.add _ _).block ≠ _; rw [add_block]; exact hn362_4) | exact hn362_4) (.int .i64 ((rd_T59 t350 x41_3).f4))).trans hx362_0
                     (try have hy362_0 := fun (n_ : Nat) => (show (((((((w25.drewN n_).setCell ⟨gb361, 0, none⟩ (.int .i64 ((rd_T59 t350 x41_3).f0))).setCell ⟨gb361, 1, none⟩ (.int .i64 ((rd_T59 t350 x41_3).f1))).setCell ⟨gb361, 2, none⟩ (.int .i64 ((rd_T59 t350 x41_3).f2))).setCell ⟨gb361, 3, none⟩ (.int .i64 ((rd_T59 t350 x41_3).f3))).setCell ⟨gb361, 4, none⟩ (.int .i64 ((rd_T59 t350 x41_3).f4)))).cell? _ = some _ from hx362_0))
                     clear hn362_0
                     clear hn362_1
                     clear hn362_2
                     clear hn362_3
                     clear hn362_4
                     replace p362 := eq_true p362
                     replace q362 := eq_true q362
                     have hnb34 := NB361_359.out
                     have hnc34 := NB359_361.out
                     have hcz35_0 : w25.cell? ⟨gb361, 0, none⟩ = some (.int .i64 0) := (blk_cell BK361.out 0).trans rfl
                     have hcz35_1 : w25.cell? ⟨gb361, 1, none⟩ = some (.int .i64 0) := (blk_cell BK361.out 1).trans rfl
                     have hcz35_2 : w25.cell? ⟨gb361, 2, none⟩ = some (.int .i64 0) := (blk_cell BK361.out 2).trans rfl
                     have hcz35_3 : w25.cell? ⟨gb361, 3, none⟩ = some (.int .i64 0) := (blk_cell BK361.out 3).trans rfl
                     have hcz35_4 : w25.cell? ⟨gb361, 4, none⟩ = some (.int .i64 0) := (blk_cell BK361.out 4).trans rfl
                     have hfz35_0 := blk_frozen BK361.out 0
                     have hfz35_1 := blk_frozen BK361.out 1
                     have hfz35_2 := blk_frozen BK361.out 2
                     have hfz35_3 := blk_frozen BK361.out 3
                     have hfz35_4 := blk_frozen BK361.out 4
                     have hcz36_0 : w25.cell? ⟨gb359, 0, none⟩ = some (.int .i64 ((rd_T59 t350 x34_2).f0)) := (blk_cell BK359.out 0).trans rfl
                     have hcz36_1 : w25.cell? ⟨gb359, 1, none⟩ = some (.int .i64 ((rd_T59 t350 x34_2).f1)) := (blk_cell BK359.out 1).trans rfl
                     have hcz36_2 : w25.cell? ⟨gb359, 2, none⟩ = some (.int .i64 ((rd_T59 t350 x34_2).f2)) := (blk_cell BK359.out 2).trans rfl
                     have hcz36_3 : w25.cell? ⟨gb359, 3, none⟩ = some (.int .i64 ((rd_T59 t350 x34_2).f3)) := (blk_cell BK359.out 3).trans rfl
                     have hcz36_4 : w25.cell? ⟨gb359, 4, none⟩ = some (.int .i64 ((rd_T59 t350 x34_2).f4)) := (blk_cell BK359.out 4).trans rfl
                     have hfz36_0 := blk_frozen BK359.out 0
                     have hfz36_1 := blk_frozen BK359.out 1
                     have hfz36_2 := blk_frozen BK359.out 2
                     have hfz36_3 := blk_frozen BK359.out 3
                     have hfz36_4 := blk_frozen BK359.out 4
                     have p363 : 0 ≤ (x41_3 : Int) := of_decide_eq_true (by first | (with_reducible assumption) | assumption)
                     have q363 : x41_3 < (t354.length : Int) := of_decide_eq_true (by first | (with_reducible assumption) | assumption)
                     obtain ⟨ad363, e363, hx363_0⟩ := Kd.at_int (Kd.R_reads' HO_6.out).2.2 x41_3 p363 q363
                     obtain rfl : ad362 = ad363 := (by injection e363)
                     have hn363_0 : ad362.block ≠ gb361 := Kd.own_blk (Kd.R_ne HO_6.out BK361.out (by decide))
                     have hn363_1 : ad362.block ≠ gb361 := Kd.own_blk (Kd.R_ne HO_6.out BK361.out (by decide))
                     have hn363_2 : ad362.block ≠ gb361 := Kd.own_blk (Kd.R_ne HO_6.out BK361.out (by decide))
                     have hn363_3 : ad362.block ≠ gb361 := Kd.own_blk (Kd.R_ne HO_6.out BK361.out (by decide))
                     have hn363_4 : ad362.block ≠ gb361 := Kd.own_blk (Kd.R_ne HO_6.out BK361.out (by decide))
                     replace hx363_0 := (cell_far (p := ⟨gb361, 0, none⟩) (by first | (rw [add_block]; exact hn363_0) | (show (Addr.add _ _).block ≠ _; rw [add_block]; exact hn363_0) | exact hn363_0) (.int .i64 ((rd_T59 t350 x41_3).f0))).trans hx363_0
                     replace hx363_0 := (cell_far (p := ⟨gb361, 1, none⟩) (by first | (rw [add_block]; exact hn363_1) | (show (Addr.add _ _).block ≠ _; rw [add_block]; exact hn363_1) | exact hn363_1) (.int .i64 ((rd_T59 t350 x41_3).f1))).trans hx363_0
                     replace hx363_0 := (cell_far (p := ⟨gb361, 2, none⟩) (by first | (rw [add_block]; exact hn363_2) | (show (Addr.add _ _).block ≠ _; rw [add_block]; exact hn363_2) | exact hn363_2) (.int .i64 ((rd_T59 t350 x41_3).f2))).trans hx363_0
                     replace hx363_0 := (cell_far (p := ⟨gb361, 3, none⟩) (by first | (rw [add_block]; exact hn363_3) | (show (Addr.add _ _).block ≠ _; rw [add_block]; exact hn363_3) | exact hn363_3) (.int .i64 ((rd_T59 t350 x41_3).f3))).trans hx363_0
                     replace hx363_0 := (cell_far (p := ⟨gb361, 4, none⟩) (by first | (rw [add_block]; exact hn363_4) | (show (Addr.add _ _).block ≠ _; rw [add_block]; exact hn363_4) | exact hn363_4) (.int .i64 ((rd_T59 t350 x41_3).f4))).trans hx363_0
                     (try have hy363_0 := fun (n_ : Nat) => (show (((((((w25.drewN n_).setCell ⟨gb361, 0, none⟩ (.int .i64 ((rd_T59 t350 x41_3).f0))).setCell ⟨gb361, 1, none⟩ (.int .i64 ((rd_T59 t350 x41_3).f1))).setCell ⟨gb361, 2, none⟩ (.int .i64 ((rd_T59 t350 x41_3).f2))).setCell ⟨gb361, 3, none⟩ (.int .i64 ((rd_T59 t350 x41_3).f3))).setCell ⟨gb361, 4, none⟩ (.int .i64 ((rd_T59 t350 x41_3).f4)))).cell? _ = some _ from hx363_0))
                     clear hn363_0
                     clear hn363_1
                     clear hn363_2
                     clear hn363_3
                     clear hn363_4
                     replace p363 := eq_true p363
                     replace q363 := eq_true q363
                     go_wp2
                     repeat (go_quiet (fail); try go_wp2)
                     go_meet
                     case rel => exact ⟨_, (decide ((rd t354 x41_3) < ((rd_T59 t350 x41_3).f4))), (by first | rfl | (simp; done) | (simp [*]; done)), H', ⟨by have := HJ7.out; have := HK2.out; have := HK3.out; first | omega | exact Nat.le_refl _⟩, ⟨by (with_reducible repeat (first | apply Kd.R_alloc | apply Kd.R_drewN | apply Kd.R_drew)); exact Kd.R_mono (Kd.R_far (p := ⟨gb361, 4, none⟩) (Kd.R_far (p := ⟨gb361, 3, none⟩) (Kd.R_far (p := ⟨gb361, 2, none⟩) (Kd.R_far (p := ⟨gb361, 1, none⟩) (Kd.R_far (p := ⟨gb361, 0, none⟩) (Kd.R_mono HO_5.out (fun k_ hk => (⟨hk, hk.2⟩ : _ ∧ k_ ≠ gb361))) (fun _ hk => hk.2) (.int .i64 ((rd_T59 t350 x41_3).f0))) (fun _ hk => hk.2) (.int .i64 ((rd_T59 t350 x41_3).f1))) (fun _ hk => hk.2) (.int .i64 ((rd_T59 t350 x41_3).f2))) (fun _ hk => hk.2) (.int .i64 ((rd_T59 t350 x41_3).f3))) (fun _ hk => hk.2) (.int .i64 ((rd_T59 t350 x41_3).f4))) (fun _ hk => ⟨hk.1.1, hk.1.2⟩)⟩, ⟨by (with_reducible repeat (first | apply Kd.R_alloc | apply Kd.R_drewN | apply Kd.R_drew)); exact Kd.R_mono (Kd.R_far (p := ⟨gb361, 4, none⟩) (Kd.R_far (p := ⟨gb361, 3, none⟩) (Kd.R_far (p := ⟨gb361, 2, none⟩) (Kd.R_far (p := ⟨gb361, 1, none⟩) (Kd.R_far (p := ⟨gb361, 0, none⟩) (Kd.R_types HO_6.out BK361.out (by decide)) (fun _ hk => hk.2) (.int .i64 ((rd_T59 t350 x41_3).f0))) (fun _ hk => hk.2) (.int .i64 ((rd_T59 t350 x41_3).f1))) (fun _ hk => hk.2) (.int .i64 ((rd_T59 t350 x41_3).f2))) (fun _ hk => hk.2) (.int .i64 ((rd_T59 t350 x41_3).f3))) (fun _ hk => hk.2) (.int .i64 ((rd_T59 t350 x41_3).f4))) (fun _ hk => trivial)⟩, ⟨by (with_reducible repeat (first | apply Kd.R_alloc | apply Kd.R_drewN | apply Kd.R_drew)); exact Kd.R_mono (Kd.R_far (p := ⟨gb361, 4, none⟩) (Kd.R_far (p := ⟨gb361, 3, none⟩) (Kd.R_far (p := ⟨gb361, 2, none⟩) (Kd.R_far (p := ⟨gb361, 1, none⟩) (Kd.R_far (p := ⟨gb361, 0, none⟩) (Kd.R_mono HO_32.out (fun k_ hk => (⟨hk, hk.2⟩ : _ ∧ k_ ≠ gb361))) (fun _ hk => hk.2) (.int .i64 ((rd_T59 t350 x41_3).f0))) (fun _ hk => hk.2) (.int .i64 ((rd_T59 t350 x41_3).f1))) (fun _ hk => hk.2) (.int .i64 ((rd_T59 t350 x41_3).f2))) (fun _ hk => hk.2) (.int .i64 ((rd_T59 t350 x41_3).f3))) (fun _ hk => hk.2) (.int .i64 ((rd_T59 t350 x41_3).f4))) (fun _ hk => ⟨hk.1.1, hk.1.2⟩)⟩, ⟨by (with_reducible repeat (first | apply Kd.R_alloc | apply Kd.R_drewN | apply Kd.R_drew)); exact Kd.R_mono (Kd.R_far (p := ⟨gb361, 4, none⟩) (Kd.R_far (p := ⟨gb361, 3, none⟩) (Kd.R_far (p := ⟨gb361, 2, none⟩) (Kd.R_far (p := ⟨gb361, 1, none⟩) (Kd.R_far (p := ⟨gb361, 0, none⟩) (Kd.R_mono HO_39.out (fun k_ hk => (⟨hk, hk.2⟩ : _ ∧ k_ ≠ gb361))) (fun _ hk => hk.2) (.int .i64 ((rd_T59 t350 x41_3).f0))) (fun _ hk => hk.2) (.int .i64 ((rd_T59 t350 x41_3).f1))) (fun _ hk => hk.2) (.int .i64 ((rd_T59 t350 x41_3).f2))) (fun _ hk => hk.2) (.int .i64 ((rd_T59 t350 x41_3).f3))) (fun _ hk => hk.2) (.int .i64 ((rd_T59 t350 x41_3).f4))) (fun _ hk => ⟨hk.1.1, hk.1.2⟩)⟩, ⟨by (with_reducible repeat (first | refine blk_drewN ?_ _ | refine blk_drew ?_ | refine blk_alloc ?_ _)); refine blk_far ?_ NB359_361.out _; (with_reducible repeat (first | refine blk_drewN ?_ _ | refine blk_drew ?_ | refine blk_alloc ?_ _)); refine blk_far ?_ NB359_361.out _; (with_reducible repeat (first | refine blk_drewN ?_ _ | refine blk_drew ?_ | refine blk_alloc ?_ _)); refine blk_far ?_ NB359_361.out _; (with_reducible repeat (first | refine blk_drewN ?_ _ | refine blk_drew ?_ | refine blk_alloc ?_ _)); refine blk_far ?_ NB359_361.out _; (with_reducible repeat (first | refine blk_drewN ?_ _ | refine blk_drew ?_ | refine blk_alloc ?_ _)); refine blk_far ?_ NB359_361.out _; (with_reducible repeat (first | refine blk_drewN ?_ _ | refine blk_drew ?_ | refine blk_alloc ?_ _)); exact BK359.out⟩, ⟨by (with_reducible repeat (first | refine blk_drewN ?_ _ | refine blk_drew ?_ | refine blk_alloc ?_ _)); refine blk_put (cs := #[.int .i64 ((rd_T59 t350 x41_3).f0), .int .i64 ((rd_T59 t350 x41_3).f1), .int .i64 ((rd_T59 t350 x41_3).f2), .int .i64 ((rd_T59 t350 x41_3).f3), .int .i64 0]) ?_ 4 _ rfl; (with_reducible repeat (first | refine blk_drewN ?_ _ | refine blk_drew ?_ | refine blk_alloc ?_ _)); refine blk_put (cs := #[.int .i64 ((rd_T59 t350 x41_3).f0), .int .i64 ((rd_T59 t350 x41_3).f1), .int .i64 ((rd_T59 t350 x41_3).f2), .int .i64 0, .int .i64 0]) ?_ 3 _ rfl; (with_reducible repeat (first | refine blk_drewN ?_ _ | refine blk_drew ?_ | refine blk_alloc ?_ _)); refine blk_put (cs := #[.int .i64 ((rd_T59 t350 x41_3).f0), .int .i64 ((rd_T59 t350 x41_3).f1), .int .i64 0, .int .i64 0, .int .i64 0]) ?_ 2 _ rfl; (with_reducible repeat (first | refine blk_drewN ?_ _ | refine blk_drew ?_ | refine blk_alloc ?_ _)); refine blk_put (cs := #[.int .i64 ((rd_T59 t350 x41_3).f0), .int .i64 0, .int .i64 0, .int .i64 0, .int .i64 0]) ?_ 1 _ rfl; (with_reducible repeat (first | refine blk_drewN ?_ _ | refine blk_drew ?_ | refine blk_alloc ?_ _)); refine blk_put (cs := #[.int .i64 0, .int .i64 0, .int .i64 0, .int .i64 0, .int .i64 0]) ?_ 0 _ rfl; (with_reducible repeat (first | refine blk_drewN ?_ _ | refine blk_drew ?_ | refine blk_alloc ?_ _)); exact BK361.out⟩, ⟨by repeat (first | (with_reducible first | exact HB.out | apply below_alloc | apply pw_below_drewN | apply below_drew1 | refine below_set ?_ GE359.out | refine below_set ?_ GE361.out) | exact HB.out)⟩⟩
                    ·rw [if_neg c32] at H
                     exact absurd H (by simp)
                   ·rw [if_neg c31] at H
                    have c31b0 : decide (((rd_T59 t350 x41_3).f3) < ((rd_T59 t350 x34_2).f3)) = false := decide_eq_false c31
                    clear c31
                    have H' := Aside0.mk H
                    clear H
                    obtain ⟨Ao37, co37, eo37⟩ := Kd.R_slice HO_6.out
                    subst eo37
                    have p362 : 0 ≤ (x34_2 : Int) := of_decide_eq_true (by first | (with_reducible assumption) | assumption)
                    have q362 : x34_2 < (t354.length : Int) := of_decide_eq_true (by first | (with_reducible assumption) | assumption)
                    obtain ⟨ad362, e362, hx362_0⟩ := Kd.at_int (Kd.R_reads' HO_6.out).2.2 x34_2 p362 q362
                    cases e362
                    have hn362_0 : ad362.block ≠ gb361 := Kd.own_blk (Kd.R_ne HO_6.out BK361.out (by decide))
                    have hn362_1 : ad362.block ≠ gb361 := Kd.own_blk (Kd.R_ne HO_6.out BK361.out (by decide))
                    have hn362_2 : ad362.block ≠ gb361 := Kd.own_blk (Kd.R_ne HO_6.out BK361.out (by decide))
                    have hn362_3 : ad362.block ≠ gb361 := Kd.own_blk (Kd.R_ne HO_6.out BK361.out (by decide))
                    have hn362_4 : ad362.block ≠ gb361 := Kd.own_blk (Kd.R_ne HO_6.out BK361.out (by decide))
                    replace hx362_0 := (cell_far (p := ⟨gb361, 0, none⟩) (by first | (rw [add_block]; exact hn362_0) | (show (Addr.add _ _).block ≠ _; rw [add_block]; exact hn362_0) | exact hn362_0) (.int .i64 ((rd_T59 t350 x41_3).f0))).trans hx362_0
                    replace hx362_0 := (cell_far (p := ⟨gb361, 1, none⟩) (by first | (rw [add_block]; exact hn362_1) | (show (Addr.add _ _).block ≠ _; rw [add_block]; exact hn362_1) | exact hn362_1) (.int .i64 ((rd_T59 t350 x41_3).f1))).trans hx362_0
                    replace hx362_0 := (cell_far (p := ⟨gb361, 2, none⟩) (by first | (rw [add_block]; exact hn362_2) | (show (Addr.add _ _).block ≠ _; rw [add_block]; exact hn362_2) | exact hn362_2) (.int .i64 ((rd_T59 t350 x41_3).f2))).trans hx362_0
                    replace hx362_0 := (cell_far (p := ⟨gb361, 3, none⟩) (by first | (rw [add_block]; exact hn362_3) | (show (Addr.add _ _).block ≠ _; rw [add_block]; exact hn362_3) | exact hn362_3) (.int .i64 ((rd_T59 t350 x41_3).f3))).trans hx362_0
                    replace hx362_0 := (cell_far (p := ⟨gb361, 4, none⟩) (by first | (rw [add_block]; exact hn362_4) | (show (Addr.add _ _).block ≠ _; rw [add_block]; exact hn362_4) | exact hn362_4) (.int .i64 ((rd_T59 t350 x41_3).f4))).trans hx362_0
                    (try have hy362_0 := fun (n_ : Nat) => (show (((((((w25.drewN n_).setCell ⟨gb361, 0, none⟩ (.int .i64 ((rd_T59 t350 x41_3).f0))).setCell ⟨gb361, 1, none⟩ (.int .i64 ((rd_T59 t350 x41_3).f1))).setCell ⟨gb361, 2, none⟩ (.int .i64 ((rd_T59 t350 x41_3).f2))).setCell ⟨gb361, 3, none⟩ (.int .i64 ((rd_T59 t350 x41_3).f3))).setCell ⟨gb361, 4, none⟩ (.int .i64 ((rd_T59 t350 x41_3).f4)))).cell? _ = some _ from hx362_0))
                    clear hn362_0
                    clear hn362_1
                    clear hn362_2
                    clear hn362_3
                    clear hn362_4
                    replace p362 := eq_true p362
                    replace q362 := eq_true q362
                    have hnb38 := NB361_359.out
                    have hnc38 := NB359_361.out
                    have hcz39_0 : w25.cell? ⟨gb361, 0, none⟩ = some (.int .i64 0) := (blk_cell BK361.out 0).trans rfl
                    have hcz39_1 : w25.cell? ⟨gb361, 1, none⟩ = some (.int .i64 0) := (blk_cell BK361.out 1).trans rfl
                    have hcz39_2 : w25.cell? ⟨gb361, 2, none⟩ = some (.int .i64 0) := (blk_cell BK361.out 2).trans rfl
                    have hcz39_3 : w25.cell? ⟨gb361, 3, none⟩ = some (.int .i64 0) := (blk_cell BK361.out 3).trans rfl
                    have hcz39_4 : w25.cell? ⟨gb361, 4, none⟩ = some (.int .i64 0) := (blk_cell BK361.out 4).trans rfl
                    have hfz39_0 := blk_frozen BK361.out 0
                    have hfz39_1 := blk_frozen BK361.out 1
                    have hfz39_2 := blk_frozen BK361.out 2
                    have hfz39_3 := blk_frozen BK361.out 3
                    have hfz39_4 := blk_frozen BK361.out 4
                    have hcz40_0 : w25.cell? ⟨gb359, 0, none⟩ = some (.int .i64 ((rd_T59 t350 x34_2).f0)) := (blk_cell BK359.out 0).trans rfl
                    have hcz40_1 : w25.cell? ⟨gb359, 1, none⟩ = some (.int .i64 ((rd_T59 t350 x34_2).f1)) := (blk_cell BK359.out 1).trans rfl
                    have hcz40_2 : w25.cell? ⟨gb359, 2, none⟩ = some (.int .i64 ((rd_T59 t350 x34_2).f2)) := (blk_cell BK359.out 2).trans rfl
                    have hcz40_3 : w25.cell? ⟨gb359, 3, none⟩ = some (.int .i64 ((rd_T59 t350 x34_2).f3)) := (blk_cell BK359.out 3).trans rfl
                    have hcz40_4 : w25.cell? ⟨gb359, 4, none⟩ = some (.int .i64 ((rd_T59 t350 x34_2).f4)) := (blk_cell BK359.out 4).trans rfl
                    have hfz40_0 := blk_frozen BK359.out 0
                    have hfz40_1 := blk_frozen BK359.out 1
                    have hfz40_2 := blk_frozen BK359.out 2
                    have hfz40_3 := blk_frozen BK359.out 3
                    have hfz40_4 := blk_frozen BK359.out 4
                    go_wp2
                    repeat (go_quiet (fail); try go_wp2)
                    go_meet
                    case rel => exact ⟨_, (false), (by first | rfl | (simp; done) | (simp [*]; done)), H', ⟨by have := HJ7.out; have := HK2.out; have := HK3.out; first | omega | exact Nat.le_refl _⟩, ⟨by (with_reducible repeat (first | apply Kd.R_alloc | apply Kd.R_drewN | apply Kd.R_drew)); exact Kd.R_mono (Kd.R_far (p := ⟨gb361, 4, none⟩) (Kd.R_far (p := ⟨gb361, 3, none⟩) (Kd.R_far (p := ⟨gb361, 2, none⟩) (Kd.R_far (p := ⟨gb361, 1, none⟩) (Kd.R_far (p := ⟨gb361, 0, none⟩) (Kd.R_mono HO_5.out (fun k_ hk => (⟨hk, hk.2⟩ : _ ∧ k_ ≠ gb361))) (fun _ hk => hk.2) (.int .i64 ((rd_T59 t350 x41_3).f0))) (fun _ hk => hk.2) (.int .i64 ((rd_T59 t350 x41_3).f1))) (fun _ hk => hk.2) (.int .i64 ((rd_T59 t350 x41_3).f2))) (fun _ hk => hk.2) (.int .i64 ((rd_T59 t350 x41_3).f3))) (fun _ hk => hk.2) (.int .i64 ((rd_T59 t350 x41_3).f4))) (fun _ hk => ⟨hk.1.1, hk.1.2⟩)⟩, ⟨by (with_reducible repeat (first | apply Kd.R_alloc | apply Kd.R_drewN | apply Kd.R_drew)); exact Kd.R_mono (Kd.R_far (p := ⟨gb361, 4, none⟩) (Kd.R_far (p := ⟨gb361, 3, none⟩) (Kd.R_far (p := ⟨gb361, 2, none⟩) (Kd.R_far (p := ⟨gb361, 1, none⟩) (Kd.R_far (p := ⟨gb361, 0, none⟩) (Kd.R_types HO_6.out BK361.out (by decide)) (fun _ hk => hk.2) (.int .i64 ((rd_T59 t350 x41_3).f0))) (fun _ hk => hk.2) (.int .i64 ((rd_T59 t350 x41_3).f1))) (fun _ hk => hk.2) (.int .i64 ((rd_T59 t350 x41_3).f2))) (fun _ hk => hk.2) (.int .i64 ((rd_T59 t350 x41_3).f3))) (fun _ hk => hk.2) (.int .i64 ((rd_T59 t350 x41_3).f4))) (fun _ hk => trivial)⟩, ⟨by (with_reducible repeat (first | apply Kd.R_alloc | apply Kd.R_drewN | apply Kd.R_drew)); exact Kd.R_mono (Kd.R_far (p := ⟨gb361, 4, none⟩) (Kd.R_far (p := ⟨gb361, 3, none⟩) (Kd.R_far (p := ⟨gb361, 2, none⟩) (Kd.R_far (p := ⟨gb361, 1, none⟩) (Kd.R_far (p := ⟨gb361, 0, none⟩) (Kd.R_mono HO_32.out (fun k_ hk => (⟨hk, hk.2⟩ : _ ∧ k_ ≠ gb361))) (fun _ hk => hk.2) (.int .i64 ((rd_T59 t350 x41_3).f0))) (fun _ hk => hk.2) (.int .i64 ((rd_T59 t350 x41_3).f1))) (fun _ hk => hk.2) (.int .i64 ((rd_T59 t350 x41_3).f2))) (fun _ hk => hk.2) (.int .i64 ((rd_T59 t350 x41_3).f3))) (fun _ hk => hk.2) (.int .i64 ((rd_T59 t350 x41_3).f4))) (fun _ hk => ⟨hk.1.1, hk.1.2⟩)⟩, ⟨by (with_reducible repeat (first | apply Kd.R_alloc | apply Kd.R_drewN | apply Kd.R_drew)); exact Kd.R_mono (Kd.R_far (p := ⟨gb361, 4, none⟩) (Kd.R_far (p := ⟨gb361, 3, none⟩) (Kd.R_far (p := ⟨gb361, 2, none⟩) (Kd.R_far (p := ⟨gb361, 1, none⟩) (Kd.R_far (p := ⟨gb361, 0, none⟩) (Kd.R_mono HO_39.out (fun k_ hk => (⟨hk, hk.2⟩ : _ ∧ k_ ≠ gb361))) (fun _ hk => hk.2) (.int .i64 ((rd_T59 t350 x41_3).f0))) (fun _ hk => hk.2) (.int .i64 ((rd_T59 t350 x41_3).f1))) (fun _ hk => hk.2) (.int .i64 ((rd_T59 t350 x41_3).f2))) (fun _ hk => hk.2) (.int .i64 ((rd_T59 t350 x41_3).f3))) (fun _ hk => hk.2) (.int .i64 ((rd_T59 t350 x41_3).f4))) (fun _ hk => ⟨hk.1.1, hk.1.2⟩)⟩, ⟨by (with_reducible repeat (first | refine blk_drewN ?_ _ | refine blk_drew ?_ | refine blk_alloc ?_ _)); refine blk_far ?_ NB359_361.out _; (with_reducible repeat (first | refine blk_drewN ?_ _ | refine blk_drew ?_ | refine blk_alloc ?_ _)); refine blk_far ?_ NB359_361.out _; (with_reducible repeat (first | refine blk_drewN ?_ _ | refine blk_drew ?_ | refine blk_alloc ?_ _)); refine blk_far ?_ NB359_361.out _; (with_reducible repeat (first | refine blk_drewN ?_ _ | refine blk_drew ?_ | refine blk_alloc ?_ _)); refine blk_far ?_ NB359_361.out _; (with_reducible repeat (first | refine blk_drewN ?_ _ | refine blk_drew ?_ | refine blk_alloc ?_ _)); refine blk_far ?_ NB359_361.out _; (with_reducible repeat (first | refine blk_drewN ?_ _ | refine blk_drew ?_ | refine blk_alloc ?_ _)); exact BK359.out⟩, ⟨by (with_reducible repeat (first | refine blk_drewN ?_ _ | refine blk_drew ?_ | refine blk_alloc ?_ _)); refine blk_put (cs := #[.int .i64 ((rd_T59 t350 x41_3).f0), .int .i64 ((rd_T59 t350 x41_3).f1), .int .i64 ((rd_T59 t350 x41_3).f2), .int .i64 ((rd_T59 t350 x41_3).f3), .int .i64 0]) ?_ 4 _ rfl; (with_reducible repeat (first | refine blk_drewN ?_ _ | refine blk_drew ?_ | refine blk_alloc ?_ _)); refine blk_put (cs := #[.int .i64 ((rd_T59 t350 x41_3).f0), .int .i64 ((rd_T59 t350 x41_3).f1), .int .i64 ((rd_T59 t350 x41_3).f2), .int .i64 0, .int .i64 0]) ?_ 3 _ rfl; (with_reducible repeat (first | refine blk_drewN ?_ _ | refine blk_drew ?_ | refine blk_alloc ?_ _)); refine blk_put (cs := #[.int .i64 ((rd_T59 t350 x41_3).f0), .int .i64 ((rd_T59 t350 x41_3).f1), .int .i64 0, .int .i64 0, .int .i64 0]) ?_ 2 _ rfl; (with_reducible repeat (first | refine blk_drewN ?_ _ | refine blk_drew ?_ | refine blk_alloc ?_ _)); refine blk_put (cs := #[.int .i64 ((rd_T59 t350 x41_3).f0), .int .i64 0, .int .i64 0, .int .i64 0, .int .i64 0]) ?_ 1 _ rfl; (with_reducible repeat (first | refine blk_drewN ?_ _ | refine blk_drew ?_ | refine blk_alloc ?_ _)); refine blk_put (cs := #[.int .i64 0, .int .i64 0, .int .i64 0, .int .i64 0, .int .i64 0]) ?_ 0 _ rfl; (with_reducible repeat (first | refine blk_drewN ?_ _ | refine blk_drew ?_ | refine blk_alloc ?_ _)); exact BK361.out⟩, ⟨by repeat (first | (with_reducible first | exact HB.out | apply below_alloc | apply pw_below_drewN | apply below_drew1 | refine below_set ?_ GE359.out | refine below_set ?_ GE361.out) | exact HB.out)⟩⟩
                  ·rw [if_neg c30] at H
                   have c30b0 : decide (0 < (rd t354 x34_2)) = false := decide_eq_false c30
                   clear c30
                   have H' := Aside0.mk H
                   clear H
                   obtain ⟨Ao41, co41, eo41⟩ := Kd.R_slice HO_6.out
                   subst eo41
                   have p362 : 0 ≤ (x34_2 : Int) := of_decide_eq_true (by first | (with_reducible assumption) | assumption)
                   have q362 : x34_2 < (t354.length : Int) := of_decide_eq_true (by first | (with_reducible assumption) | assumption)
                   obtain ⟨ad362, e362, hx362_0⟩ := Kd.at_int (Kd.R_reads' HO_6.out).2.2 x34_2 p362 q362
                   cases e362
                   have hn362_0 : ad362.block ≠ gb361 := Kd.own_blk (Kd.R_ne HO_6.out BK361.out (by decide))
                   have hn362_1 : ad362.block ≠ gb361 := Kd.own_blk (Kd.R_ne HO_6.out BK361.out (by decide))
                   have hn362_2 : ad362.block ≠ gb361 := Kd.own_blk (Kd.R_ne HO_6.out BK361.out (by decide))
                   have hn362_3 : ad362.block ≠ gb361 := Kd.own_blk (Kd.R_ne HO_6.out BK361.out (by decide))
                   have hn362_4 : ad362.block ≠ gb361 := Kd.own_blk (Kd.R_ne HO_6.out BK361.out (by decide))
                   replace hx362_0 := (cell_far (p := ⟨gb361, 0, none⟩) (by first | (rw [add_block]; exact hn362_0) | (show (Addr.add _ _).block ≠ _; rw [add_block]; exact hn362_0) | exact hn362_0) (.int .i64 ((rd_T59 t350 x41_3).f0))).trans hx362_0
                   replace hx362_0 := (cell_far (p := ⟨gb361, 1, none⟩) (by first | (rw [add_block]; exact hn362_1) | (show (Addr.add _ _).block ≠ _; rw [add_block]; exact hn362_1) | exact hn362_1) (.int .i64 ((rd_T59 t350 x41_3).f1))).trans hx362_0
                   replace hx362_0 := (cell_far (p := ⟨gb361, 2, none⟩) (by first | (rw [add_block]; exact hn362_2) | (show (Addr.add _ _).block ≠ _; rw [add_block]; exact hn362_2) | exact hn362_2) (.int .i64 ((rd_T59 t350 x41_3).f2))).trans hx362_0
                   replace hx362_0 := (cell_far (p := ⟨gb361, 3, none⟩) (by first | (rw [add_block]; exact hn362_3) | (show (Addr.add _ _).block ≠ _; rw [add_block]; exact hn362_3) | exact hn362_3) (.int .i64 ((rd_T59 t350 x41_3).f3))).trans hx362_0
                   replace hx362_0 := (cell_far (p := ⟨gb361, 4, none⟩) (by first | (rw [add_block]; exact hn362_4) | (show (Addr.add _ _).block ≠ _; rw [add_block]; exact hn362_4) | exact hn362_4) (.int .i64 ((rd_T59 t350 x41_3).f4))).trans hx362_0
                   (try have hy362_0 := fun (n_ : Nat) => (show (((((((w25.drewN n_).setCell ⟨gb361, 0, none⟩ (.int .i64 ((rd_T59 t350 x41_3).f0))).setCell ⟨gb361, 1, none⟩ (.int .i64 ((rd_T59 t350 x41_3).f1))).setCell ⟨gb361, 2, none⟩ (.int .i64 ((rd_T59 t350 x41_3).f2))).setCell ⟨gb361, 3, none⟩ (.int .i64 ((rd_T59 t350 x41_3).f3))).setCell ⟨gb361, 4, none⟩ (.int .i64 ((rd_T59 t350 x41_3).f4)))).cell? _ = some _ from hx362_0))
                   clear hn362_0
                   clear hn362_1
                   clear hn362_2
                   clear hn362_3
                   clear hn362_4
                   replace p362 := eq_true p362
                   replace q362 := eq_true q362
                   go_wp2
                   repeat (go_quiet (fail); try go_wp2)
                   go_meet
                   case rel => exact ⟨_, (false), (by first | rfl | (simp; done) | (simp [*]; done)), H', ⟨by have := HJ7.out; have := HK2.out; have := HK3.out; first | omega | exact Nat.le_refl _⟩, ⟨by (with_reducible repeat (first | apply Kd.R_alloc | apply Kd.R_drewN | apply Kd.R_drew)); exact Kd.R_mono (Kd.R_far (p := ⟨gb361, 4, none⟩) (Kd.R_far (p := ⟨gb361, 3, none⟩) (Kd.R_far (p := ⟨gb361, 2, none⟩) (Kd.R_far (p := ⟨gb361, 1, none⟩) (Kd.R_far (p := ⟨gb361, 0, none⟩) (Kd.R_mono HO_5.out (fun k_ hk => (⟨hk, hk.2⟩ : _ ∧ k_ ≠ gb361))) (fun _ hk => hk.2) (.int .i64 ((rd_T59 t350 x41_3).f0))) (fun _ hk => hk.2) (.int .i64 ((rd_T59 t350 x41_3).f1))) (fun _ hk => hk.2) (.int .i64 ((rd_T59 t350 x41_3).f2))) (fun _ hk => hk.2) (.int .i64 ((rd_T59 t350 x41_3).f3))) (fun _ hk => hk.2) (.int .i64 ((rd_T59 t350 x41_3).f4))) (fun _ hk => ⟨hk.1.1, hk.1.2⟩)⟩, ⟨by (with_reducible repeat (first | apply Kd.R_alloc | apply Kd.R_drewN | apply Kd.R_drew)); exact Kd.R_mono (Kd.R_far (p := ⟨gb361, 4, none⟩) (Kd.R_far (p := ⟨gb361, 3, none⟩) (Kd.R_far (p := ⟨gb361, 2, none⟩) (Kd.R_far (p := ⟨gb361, 1, none⟩) (Kd.R_far (p := ⟨gb361, 0, none⟩) (Kd.R_types HO_6.out BK361.out (by decide)) (fun _ hk => hk.2) (.int .i64 ((rd_T59 t350 x41_3).f0))) (fun _ hk => hk.2) (.int .i64 ((rd_T59 t350 x41_3).f1))) (fun _ hk => hk.2) (.int .i64 ((rd_T59 t350 x41_3).f2))) (fun _ hk => hk.2) (.int .i64 ((rd_T59 t350 x41_3).f3))) (fun _ hk => hk.2) (.int .i64 ((rd_T59 t350 x41_3).f4))) (fun _ hk => trivial)⟩, ⟨by (with_reducible repeat (first | apply Kd.R_alloc | apply Kd.R_drewN | apply Kd.R_drew)); exact Kd.R_mono (Kd.R_far (p := ⟨gb361, 4, none⟩) (Kd.R_far (p := ⟨gb361, 3, none⟩) (Kd.R_far (p := ⟨gb361, 2, none⟩) (Kd.R_far (p := ⟨gb361, 1, none⟩) (Kd.R_far (p := ⟨gb361, 0, none⟩) (Kd.R_mono HO_32.out (fun k_ hk => (⟨hk, hk.2⟩ : _ ∧ k_ ≠ gb361))) (fun _ hk => hk.2) (.int .i64 ((rd_T59 t350 x41_3).f0))) (fun _ hk => hk.2) (.int .i64 ((rd_T59 t350 x41_3).f1))) (fun _ hk => hk.2) (.int .i64 ((rd_T59 t350 x41_3).f2))) (fun _ hk => hk.2) (.int .i64 ((rd_T59 t350 x41_3).f3))) (fun _ hk => hk.2) (.int .i64 ((rd_T59 t350 x41_3).f4))) (fun _ hk => ⟨hk.1.1, hk.1.2⟩)⟩, ⟨by (with_reducible repeat (first | apply Kd.R_alloc | apply Kd.R_drewN | apply Kd.R_drew)); exact Kd.R_mono (Kd.R_far (p := ⟨gb361, 4, none⟩) (Kd.R_far (p := ⟨gb361, 3, none⟩) (Kd.R_far (p := ⟨gb361, 2, none⟩) (Kd.R_far (p := ⟨gb361, 1, none⟩) (Kd.R_far (p := ⟨gb361, 0, none⟩) (Kd.R_mono HO_39.out (fun k_ hk => (⟨hk, hk.2⟩ : _ ∧ k_ ≠ gb361))) (fun _ hk => hk.2) (.int .i64 ((rd_T59 t350 x41_3).f0))) (fun _ hk => hk.2) (.int .i64 ((rd_T59 t350 x41_3).f1))) (fun _ hk => hk.2) (.int .i64 ((rd_T59 t350 x41_3).f2))) (fun _ hk => hk.2) (.int .i64 ((rd_T59 t350 x41_3).f3))) (fun _ hk => hk.2) (.int .i64 ((rd_T59 t350 x41_3).f4))) (fun _ hk => ⟨hk.1.1, hk.1.2⟩)⟩, ⟨by (with_reducible repeat (first | refine blk_drewN ?_ _ | refine blk_drew ?_ | refine blk_alloc ?_ _)); refine blk_far ?_ NB359_361.out _; (with_reducible repeat (first | refine blk_drewN ?_ _ | refine blk_drew ?_ | refine blk_alloc ?_ _)); refine blk_far ?_ NB359_361.out _; (with_reducible repeat (first | refine blk_drewN ?_ _ | refine blk_drew ?_ | refine blk_alloc ?_ _)); refine blk_far ?_ NB359_361.out _; (with_reducible repeat (first | refine blk_drewN ?_ _ | refine blk_drew ?_ | refine blk_alloc ?_ _)); refine blk_far ?_ NB359_361.out _; (with_reducible repeat (first | refine blk_drewN ?_ _ | refine blk_drew ?_ | refine blk_alloc ?_ _)); refine blk_far ?_ NB359_361.out _; (with_reducible repeat (first | refine blk_drewN ?_ _ | refine blk_drew ?_ | refine blk_alloc ?_ _)); exact BK359.out⟩, ⟨by (with_reducible repeat (first | refine blk_drewN ?_ _ | refine blk_drew ?_ | refine blk_alloc ?_ _)); refine blk_put (cs := #[.int .i64 ((rd_T59 t350 x41_3).f0), .int .i64 ((rd_T59 t350 x41_3).f1), .int .i64 ((rd_T59 t350 x41_3).f2), .int .i64 ((rd_T59 t350 x41_3).f3), .int .i64 0]) ?_ 4 _ rfl; (with_reducible repeat (first | refine blk_drewN ?_ _ | refine blk_drew ?_ | refine blk_alloc ?_ _)); refine blk_put (cs := #[.int .i64 ((rd_T59 t350 x41_3).f0), .int .i64 ((rd_T59 t350 x41_3).f1), .int .i64 ((rd_T59 t350 x41_3).f2), .int .i64 0, .int .i64 0]) ?_ 3 _ rfl; (with_reducible repeat (first | refine blk_drewN ?_ _ | refine blk_drew ?_ | refine blk_alloc ?_ _)); refine blk_put (cs := #[.int .i64 ((rd_T59 t350 x41_3).f0), .int .i64 ((rd_T59 t350 x41_3).f1), .int .i64 0, .int .i64 0, .int .i64 0]) ?_ 2 _ rfl; (with_reducible repeat (first | refine blk_drewN ?_ _ | refine blk_drew ?_ | refine blk_alloc ?_ _)); refine blk_put (cs := #[.int .i64 ((rd_T59 t350 x41_3).f0), .int .i64 0, .int .i64 0, .int .i64 0, .int .i64 0]) ?_ 1 _ rfl; (with_reducible repeat (first | refine blk_drewN ?_ _ | refine blk_drew ?_ | refine blk_alloc ?_ _)); refine blk_put (cs := #[.int .i64 0, .int .i64 0, .int .i64 0, .int .i64 0, .int .i64 0]) ?_ 0 _ rfl; (with_reducible repeat (first | refine blk_drewN ?_ _ | refine blk_drew ?_ | refine blk_alloc ?_ _)); exact BK361.out⟩, ⟨by repeat (first | (with_reducible first | exact HB.out | apply below_alloc | apply pw_below_drewN | apply below_drew1 | refine below_set ?_ GE359.out | refine below_set ?_ GE361.out) | exact HB.out)⟩⟩
                 ·rw [if_neg c29] at H
                  exact absurd H (by simp)
                ·rw [if_neg c28] at H
                 exact absurd H (by simp)
               case rest =>
                clear HC24
                try clear c1
                try clear c2
                try clear p2
                try clear c3
                try clear p3
                try clear q3
                try clear hx3
                try clear c4
                try clear p4
                try clear c9
                try clear c13
                try clear c13b0
                try clear c13b1
                try clear c15
                try clear c16
                try clear c16b0
                try clear c17
                try clear c17b0
                try clear c18
                try clear c18b0
                try clear c21
                try clear c21b0
                try clear c22
                try clear c22b0
                try clear c23
                try clear c23b0
                try clear c26
                try clear c28
                try clear c28b0
                try clear c29
                try clear c29b0
                try clear c30
                try clear c30b0
                try clear c31
                try clear c31b0
                try clear c32
                try clear c32b0
                try clear c34
                try clear p35
                try clear q35
                try clear hx35
                try clear p36
                try clear q36
                try clear hx36
                try clear c38
                try clear hcz20_0
                try clear hcz20_1
                try clear hcz20_2
                try clear hcz20_3
                try clear hcz20_4
                try clear hcz27_0
                try clear hcz27_1
                try clear hcz27_2
                try clear hcz27_3
                try clear hcz27_4
                try clear hcz35_0
                try clear hcz35_1
                try clear hcz35_2
                try clear hcz35_3
                try clear hcz35_4
                try clear hcz36_0
                try clear hcz36_1
                try clear hcz36_2
                try clear hcz36_3
                try clear hcz36_4
                try clear hcz39_0
                try clear hcz39_1
                try clear hcz39_2
                try clear hcz39_3
                try clear hcz39_4
                try clear hcz40_0
                try clear hcz40_1
                try clear hcz40_2
                try clear hcz40_3
                try clear hcz40_4
                try clear hfz20_0
                try clear hfz20_1
                try clear hfz20_2
                try clear hfz20_3
                try clear hfz20_4
                try clear hfz27_0
                try clear hfz27_1
                try clear hfz27_2
                try clear hfz27_3
                try clear hfz27_4
                try clear hfz35_0
                try clear hfz35_1
                try clear hfz35_2
                try clear hfz35_3
                try clear hfz35_4
                try clear hfz36_0
                try clear hfz36_1
                try clear hfz36_2
                try clear hfz36_3
                try clear hfz36_4
                try clear hfz39_0
                try clear hfz39_1
                try clear hfz39_2
                try clear hfz39_3
                try clear hfz39_4
                try clear hfz40_0
                try clear hfz40_1
                try clear hfz40_2
                try clear hfz40_3
                try clear hfz40_4
                try clear hx358_0
                try clear hx358_1
                try clear hx358_2
                try clear hx358_3
                try clear hx358_4
                try clear hx360_0
                try clear hx360_1
                try clear hx360_2
                try clear hx360_3
                try clear hx360_4
                try clear hx362_0
                try clear hx363_0
                try clear p2
                try clear p3
                try clear p358
                try clear p360
                try clear p362
                try clear p363
                try clear p4
                try clear q3
                try clear q358
                try clear q360
                try clear q362
                try clear q363
                obtain ⟨kq, x66_23, rfl, HA, HJ23, HO_5, HO_6, HO_32, HO_39, BK359, BK361, HB⟩ := hcut
                cases kq with
                | zero => exact absurd HA.out (by simp [mootkeep4_CapFair.j3])
                | succ kj23 =>
                 have H := HA.out
                 clear HA
                 simp only [mootkeep4_CapFair.j3] at H
                 by_cases c42 : x66_23 = true
                 ·subst c42
                  have H1 : (some false) = some r := by rw [if_pos rfl] at H; exact H
                  clear H
                  have H := H1
                  clear H1
                  obtain rfl := Option.some.inj H
                  go_wp2
                  repeat (go_quiet (fail); try go_wp2)
                  go_ret
                  exact ⟨by first | rfl | (simp [errW_none, errW_some] <;> rfl) | (simp [*, errW_none, errW_some] <;> rfl), by repeat (first | (with_reducible first | exact HB.out | apply below_alloc | apply pw_below_drewN | apply below_drew1 | refine below_set ?_ GE359.out | refine below_set ?_ GE361.out) | exact HB.out)⟩
                 ·replace c42 := Bool.eq_false_iff.mpr c42
                  subst c42
                  have H1 : (if ((rd_T59 t350 x34_2).f3) = ((rd_T59 t350 x41_3).f3) then (if ((rd_T59 t350 x34_2).f4) > ((rd_T59 t350 x41_3).f4) then (if 0 ≤ x34_2 then (if x34_2 < (t354.length : Int) then (if 0 ≤ x41_3 then (if x41_3 < (t354.length : Int) then (if (rd t354 x34_2) < (rd t354 x41_3) then (some false) else (mootkeep4_CapFair.l1 kj23 t350 t354 x34_2 t350 (t350.length : Int) x34_2 t350 (t350.length : Int) (wrap64 (x41_3 + 1)) ((rd_T59 t350 x34_2).f0) ((rd_T59 t350 x34_2).f1) ((rd_T59 t350 x34_2).f2) ((rd_T59 t350 x34_2).f3) ((rd_T59 t350 x34_2).f4))) else (none)) else (none)) else (none)) else (none)) else (mootkeep4_CapFair.l1 kj23 t350 t354 x34_2 t350 (t350.length : Int) x34_2 t350 (t350.length : Int) (wrap64 (x41_3 + 1)) ((rd_T59 t350 x34_2).f0) ((rd_T59 t350 x34_2).f1) ((rd_T59 t350 x34_2).f2) ((rd_T59 t350 x34_2).f3) ((rd_T59 t350 x34_2).f4))) else (mootkeep4_CapFair.l1 kj23 t350 t354 x34_2 t350 (t350.length : Int) x34_2 t350 (t350.length : Int) (wrap64 (x41_3 + 1)) ((rd_T59 t350 x34_2).f0) ((rd_T59 t350 x34_2).f1) ((rd_T59 t350 x34_2).f2) ((rd_T59 t350 x34_2).f3) ((rd_T59 t350 x34_2).f4))) = some r := by rw [if_neg (show ¬ (false = true) by decide)] at H; exact H
                  clear H
                  have H := H1
                  clear H1
                  by_cases c43 : ((rd_T59 t350 x34_2).f3) = ((rd_T59 t350 x41_3).f3)
                  ·rw [if_pos c43] at H
                   have c43b0 : (((rd_T59 t350 x34_2).f3) == ((rd_T59 t350 x41_3).f3)) = true := beq_iff_eq.mpr c43
                   have c43b1 : (((rd_T59 t350 x34_2).f3) != ((rd_T59 t350 x41_3).f3)) = false := bne_eq_false_iff_eq.mpr c43
                   clear c43
                   by_cases c44 : ((rd_T59 t350 x34_2).f4) > ((rd_T59 t350 x41_3).f4)
                   ·rw [if_pos c44] at H
                    have c44b0 : decide (((rd_T59 t350 x41_3).f4) < ((rd_T59 t350 x34_2).f4)) = true := decide_eq_true c44
                    clear c44
                    by_cases c45 : 0 ≤ x34_2
                    ·rw [if_pos c45] at H
                     have c45b0 : decide (0 ≤ x34_2) = true := decide_eq_true c45
                     clear c45
                     by_cases c46 : x34_2 < (t354.length : Int)
                     ·rw [if_pos c46] at H
                      have c46b0 : decide (x34_2 < (t354.length : Int)) = true := decide_eq_true c46
                      clear c46
                      by_cases c47 : 0 ≤ x41_3
                      ·rw [if_pos c47] at H
                       have c47b0 : decide (0 ≤ x41_3) = true := decide_eq_true c47
                       clear c47
                       by_cases c48 : x41_3 < (t354.length : Int)
                       ·rw [if_pos c48] at H
                        have c48b0 : decide (x41_3 < (t354.length : Int)) = true := decide_eq_true c48
                        clear c48
                        by_cases c49 : (rd t354 x34_2) < (rd t354 x41_3)
                        ·rw [if_pos c49] at H
                         have c49b0 : decide ((rd t354 x34_2) < (rd t354 x41_3)) = true := decide_eq_true c49
                         clear c49
                         obtain rfl := Option.some.inj H
                         have hnb50 := NB359_361.out
                         have hnc50 := NB361_359.out
                         have hcz51_0 : wc.cell? ⟨gb359, 0, none⟩ = some (.int .i64 ((rd_T59 t350 x34_2).f0)) := (blk_cell BK359.out 0).trans rfl
                         have hcz51_1 : wc.cell? ⟨gb359, 1, none⟩ = some (.int .i64 ((rd_T59 t350 x34_2).f1)) := (blk_cell BK359.out 1).trans rfl
                         have hcz51_2 : wc.cell? ⟨gb359, 2, none⟩ = some (.int .i64 ((rd_T59 t350 x34_2).f2)) := (blk_cell BK359.out 2).trans rfl
                         have hcz51_3 : wc.cell? ⟨gb359, 3, none⟩ = some (.int .i64 ((rd_T59 t350 x34_2).f3)) := (blk_cell BK359.out 3).trans rfl
                         have hcz51_4 : wc.cell? ⟨gb359, 4, none⟩ = some (.int .i64 ((rd_T59 t350 x34_2).f4)) := (blk_cell BK359.out 4).trans rfl
                         have hfz51_0 := blk_frozen BK359.out 0
                         have hfz51_1 := blk_frozen BK359.out 1
                         have hfz51_2 := blk_frozen BK359.out 2
                         have hfz51_3 := blk_frozen BK359.out 3
                         have hfz51_4 := blk_frozen BK359.out 4
                         have hcz52_0 : wc.cell? ⟨gb361, 0, none⟩ = some (.int .i64 ((rd_T59 t350 x41_3).f0)) := (blk_cell BK361.out 0).trans rfl
                         have hcz52_1 : wc.cell? ⟨gb361, 1, none⟩ = some (.int .i64 ((rd_T59 t350 x41_3).f1)) := (blk_cell BK361.out 1).trans rfl
                         have hcz52_2 : wc.cell? ⟨gb361, 2, none⟩ = some (.int .i64 ((rd_T59 t350 x41_3).f2)) := (blk_cell BK361.out 2).trans rfl
                         have hcz52_3 : wc.cell? ⟨gb361, 3, none⟩ = some (.int .i64 ((rd_T59 t350 x41_3).f3)) := (blk_cell BK361.out 3).trans rfl
                         have hcz52_4 : wc.cell? ⟨gb361, 4, none⟩ = some (.int .i64 ((rd_T59 t350 x41_3).f4)) := (blk_cell BK361.out 4).trans rfl
                         have hfz52_0 := blk_frozen BK361.out 0
                         have hfz52_1 := blk_frozen BK361.out 1
                         have hfz52_2 := blk_frozen BK361.out 2
                         have hfz52_3 := blk_frozen BK361.out 3
                         have hfz52_4 := blk_frozen BK361.out 4
                         obtain ⟨Ao53, co53, eo53⟩ := Kd.R_slice HO_6.out
                         subst eo53
                         have p364 : 0 ≤ (x34_2 : Int) := of_decide_eq_true (by first | (with_reducible assumption) | assumption)
                         have q364 : x34_2 < (t354.length : Int) := of_decide_eq_true (by first | (with_reducible assumption) | assumption)
                         obtain ⟨ad364, e364, hx364_0⟩ := Kd.at_int (Kd.R_reads' HO_6.out).2.2 x34_2 p364 q364
                         cases e364
                         replace p364 := eq_true p364
                         replace q364 := eq_true q364
                         have p365 : 0 ≤ (x41_3 : Int) := of_decide_eq_true (by first | (with_reducible assumption) | assumption)
                         have q365 : x41_3 < (t354.length : Int) := of_decide_eq_true (by first | (with_reducible assumption) | assumption)
                         obtain ⟨ad365, e365, hx365_0⟩ := Kd.at_int (Kd.R_reads' HO_6.out).2.2 x41_3 p365 q365
                         obtain rfl : ad364 = ad365 := (by injection e365)
                         replace p365 := eq_true p365
                         replace q365 := eq_true q365
                         go_wp2
                         repeat (go_quiet (fail); try go_wp2)
                         go_ret
                         exact ⟨by first | rfl | (simp [errW_none, errW_some] <;> rfl) | (simp [*, errW_none, errW_some] <;> rfl), by repeat (first | (with_reducible first | exact HB.out | apply below_alloc | apply pw_below_drewN | apply below_drew1 | refine below_set ?_ GE359.out | refine below_set ?_ GE361.out) | exact HB.out)⟩
                        ·rw [if_neg c49] at H
                         have c49b0 : decide ((rd t354 x34_2) < (rd t354 x41_3)) = false := decide_eq_false c49
                         clear c49
                         have H' := Aside0.mk H
                         clear H
                         have hnb54 := NB359_361.out
                         have hnc54 := NB361_359.out
                         have hcz55_0 : wc.cell? ⟨gb359, 0, none⟩ = some (.int .i64 ((rd_T59 t350 x34_2).f0)) := (blk_cell BK359.out 0).trans rfl
                         have hcz55_1 : wc.cell? ⟨gb359, 1, none⟩ = some (.int .i64 ((rd_T59 t350 x34_2).f1)) := (blk_cell BK359.out 1).trans rfl
                         have hcz55_2 : wc.cell? ⟨gb359, 2, none⟩ = some (.int .i64 ((rd_T59 t350 x34_2).f2)) := (blk_cell BK359.out 2).trans rfl
                         have hcz55_3 : wc.cell? ⟨gb359, 3, none⟩ = some (.int .i64 ((rd_T59 t350 x34_2).f3)) := (blk_cell BK359.out 3).trans rfl
                         have hcz55_4 : wc.cell? ⟨gb359, 4, none⟩ = some (.int .i64 ((rd_T59 t350 x34_2).f4)) := (blk_cell BK359.out 4).trans rfl
                         have hfz55_0 := blk_frozen BK359.out 0
                         have hfz55_1 := blk_frozen BK359.out 1
                         have hfz55_2 := blk_frozen BK359.out 2
                         have hfz55_3 := blk_frozen BK359.out 3
                         have hfz55_4 := blk_frozen BK359.out 4
                         have hcz56_0 : wc.cell? ⟨gb361, 0, none⟩ = some (.int .i64 ((rd_T59 t350 x41_3).f0)) := (blk_cell BK361.out 0).trans rfl
                         have hcz56_1 : wc.cell? ⟨gb361, 1, none⟩ = some (.int .i64 ((rd_T59 t350 x41_3).f1)) := (blk_cell BK361.out 1).trans rfl
                         have hcz56_2 : wc.cell? ⟨gb361, 2, none⟩ = some (.int .i64 ((rd_T59 t350 x41_3).f2)) := (blk_cell BK361.out 2).trans rfl
                         have hcz56_3 : wc.cell? ⟨gb361, 3, none⟩ = some (.int .i64 ((rd_T59 t350 x41_3).f3)) := (blk_cell BK361.out 3).trans rfl
                         have hcz56_4 : wc.cell? ⟨gb361, 4, none⟩ = some (.int .i64 ((rd_T59 t350 x41_3).f4)) := (blk_cell BK361.out 4).trans rfl
                         have hfz56_0 := blk_frozen BK361.out 0
                         have hfz56_1 := blk_frozen BK361.out 1
                         have hfz56_2 := blk_frozen BK361.out 2
                         have hfz56_3 := blk_frozen BK361.out 3
                         have hfz56_4 := blk_frozen BK361.out 4
                         obtain ⟨Ao57, co57, eo57⟩ := Kd.R_slice HO_6.out
                         subst eo57
                         have p364 : 0 ≤ (x34_2 : Int) := of_decide_eq_true (by first | (with_reducible assumption) | assumption)
                         have q364 : x34_2 < (t354.length : Int) := of_decide_eq_true (by first | (with_reducible assumption) | assumption)
                         obtain ⟨ad364, e364, hx364_0⟩ := Kd.at_int (Kd.R_reads' HO_6.out).2.2 x34_2 p364 q364
                         cases e364
                         replace p364 := eq_true p364
                         replace q364 := eq_true q364
                         have p365 : 0 ≤ (x41_3 : Int) := of_decide_eq_true (by first | (with_reducible assumption) | assumption)
                         have q365 : x41_3 < (t354.length : Int) := of_decide_eq_true (by first | (with_reducible assumption) | assumption)
                         obtain ⟨ad365, e365, hx365_0⟩ := Kd.at_int (Kd.R_reads' HO_6.out).2.2 x41_3 p365 q365
                         obtain rfl : ad364 = ad365 := (by injection e365)
                         replace p365 := eq_true p365
                         replace q365 := eq_true q365
                         go_wp2
                         repeat (go_quiet (fail); try go_wp2)
                         go_roundg kj23
                         case measure => have := HJ7.out; have := HK2.out; have := HK3.out; have := HJ23.out; omega
                         case rel => exact ⟨(wrap64 (x41_3 + 1)), (by first | rfl | (simp; done) | (simp [*]; done)), H', ⟨by have := HJ7.out; have := HK2.out; have := HK3.out; have := HJ23.out; omega⟩, ⟨by (with_reducible repeat (first | apply Kd.R_alloc | apply Kd.R_drewN | apply Kd.R_drew)); exact Kd.R_mono HO_5.out (fun _ hk => hk.1)⟩, ⟨by (with_reducible repeat (first | apply Kd.R_alloc | apply Kd.R_drewN | apply Kd.R_drew)); exact HO_6.out⟩, ⟨by (with_reducible repeat (first | apply Kd.R_alloc | apply Kd.R_drewN | apply Kd.R_drew)); exact Kd.R_mono HO_32.out (fun _ hk => hk.1)⟩, ⟨by (with_reducible repeat (first | apply Kd.R_alloc | apply Kd.R_drewN | apply Kd.R_drew)); exact Kd.R_mono HO_39.out (fun _ hk => hk.1)⟩, ⟨by (with_reducible repeat (first | refine blk_drewN ?_ _ | refine blk_drew ?_ | refine blk_alloc ?_ _)); exact BK359.out⟩, ⟨by repeat (first | (with_reducible first | exact HB.out | apply below_alloc | apply pw_below_drewN | apply below_drew1 | refine below_set ?_ GE359.out | refine below_set ?_ GE361.out) | exact HB.out)⟩⟩
                       ·rw [if_neg c48] at H
                        exact absurd H (by simp)
                      ·rw [if_neg c47] at H
                       exact absurd H (by simp)
                     ·rw [if_neg c46] at H
                      exact absurd H (by simp)
                    ·rw [if_neg c45] at H
                     exact absurd H (by simp)
                   ·rw [if_neg c44] at H
                    have c44b0 : decide (((rd_T59 t350 x41_3).f4) < ((rd_T59 t350 x34_2).f4)) = false := decide_eq_false c44
                    clear c44
                    have H' := Aside0.mk H
                    clear H
                    have hnb58 := NB359_361.out
                    have hnc58 := NB361_359.out
                    have hcz59_0 : wc.cell? ⟨gb359, 0, none⟩ = some (.int .i64 ((rd_T59 t350 x34_2).f0)) := (blk_cell BK359.out 0).trans rfl
                    have hcz59_1 : wc.cell? ⟨gb359, 1, none⟩ = some (.int .i64 ((rd_T59 t350 x34_2).f1)) := (blk_cell BK359.out 1).trans rfl
                    have hcz59_2 : wc.cell? ⟨gb359, 2, none⟩ = some (.int .i64 ((rd_T59 t350 x34_2).f2)) := (blk_cell BK359.out 2).trans rfl
                    have hcz59_3 : wc.cell? ⟨gb359, 3, none⟩ = some (.int .i64 ((rd_T59 t350 x34_2).f3)) := (blk_cell BK359.out 3).trans rfl
                    have hcz59_4 : wc.cell? ⟨gb359, 4, none⟩ = some (.int .i64 ((rd_T59 t350 x34_2).f4)) := (blk_cell BK359.out 4).trans rfl
                    have hfz59_0 := blk_frozen BK359.out 0
                    have hfz59_1 := blk_frozen BK359.out 1
                    have hfz59_2 := blk_frozen BK359.out 2
                    have hfz59_3 := blk_frozen BK359.out 3
                    have hfz59_4 := blk_frozen BK359.out 4
                    have hcz60_0 : wc.cell? ⟨gb361, 0, none⟩ = some (.int .i64 ((rd_T59 t350 x41_3).f0)) := (blk_cell BK361.out 0).trans rfl
                    have hcz60_1 : wc.cell? ⟨gb361, 1, none⟩ = some (.int .i64 ((rd_T59 t350 x41_3).f1)) := (blk_cell BK361.out 1).trans rfl
                    have hcz60_2 : wc.cell? ⟨gb361, 2, none⟩ = some (.int .i64 ((rd_T59 t350 x41_3).f2)) := (blk_cell BK361.out 2).trans rfl
                    have hcz60_3 : wc.cell? ⟨gb361, 3, none⟩ = some (.int .i64 ((rd_T59 t350 x41_3).f3)) := (blk_cell BK361.out 3).trans rfl
                    have hcz60_4 : wc.cell? ⟨gb361, 4, none⟩ = some (.int .i64 ((rd_T59 t350 x41_3).f4)) := (blk_cell BK361.out 4).trans rfl
                    have hfz60_0 := blk_frozen BK361.out 0
                    have hfz60_1 := blk_frozen BK361.out 1
                    have hfz60_2 := blk_frozen BK361.out 2
                    have hfz60_3 := blk_frozen BK361.out 3
                    have hfz60_4 := blk_frozen BK361.out 4
                    go_wp2
                    repeat (go_quiet (fail); try go_wp2)
                    go_roundg kj23
                    case measure => have := HJ7.out; have := HK2.out; have := HK3.out; have := HJ23.out; omega
                    case rel => exact ⟨(wrap64 (x41_3 + 1)), (by first | rfl | (simp; done) | (simp [*]; done)), H', ⟨by have := HJ7.out; have := HK2.out; have := HK3.out; have := HJ23.out; omega⟩, ⟨by (with_reducible repeat (first | apply Kd.R_alloc | apply Kd.R_drewN | apply Kd.R_drew)); exact Kd.R_mono HO_5.out (fun _ hk => hk.1)⟩, ⟨by (with_reducible repeat (first | apply Kd.R_alloc | apply Kd.R_drewN | apply Kd.R_drew)); exact HO_6.out⟩, ⟨by (with_reducible repeat (first | apply Kd.R_alloc | apply Kd.R_drewN | apply Kd.R_drew)); exact Kd.R_mono HO_32.out (fun _ hk => hk.1)⟩, ⟨by (with_reducible repeat (first | apply Kd.R_alloc | apply Kd.R_drewN | apply Kd.R_drew)); exact Kd.R_mono HO_39.out (fun _ hk => hk.1)⟩, ⟨by (with_reducible repeat (first | refine blk_drewN ?_ _ | refine blk_drew ?_ | refine blk_alloc ?_ _)); exact BK359.out⟩, ⟨by repeat (first | (with_reducible first | exact HB.out | apply below_alloc | apply pw_below_drewN | apply below_drew1 | refine below_set ?_ GE359.out | refine below_set ?_ GE361.out) | exact HB.out)⟩⟩
                  ·rw [if_neg c43] at H
                   have c43b0 : (((rd_T59 t350 x34_2).f3) == ((rd_T59 t350 x41_3).f3)) = false := beq_eq_false_iff_ne.mpr c43
                   have c43b1 : (((rd_T59 t350 x34_2).f3) != ((rd_T59 t350 x41_3).f3)) = true := bne_iff_ne.mpr c43
                   have H' := Aside0.mk H
                   clear H
                   have hnb61 := NB359_361.out
                   have hnc61 := NB361_359.out
                   have hcz62_0 : wc.cell? ⟨gb359, 0, none⟩ = some (.int .i64 ((rd_T59 t350 x34_2).f0)) := (blk_cell BK359.out 0).trans rfl
                   have hcz62_1 : wc.cell? ⟨gb359, 1, none⟩ = some (.int .i64 ((rd_T59 t350 x34_2).f1)) := (blk_cell BK359.out 1).trans rfl
                   have hcz62_2 : wc.cell? ⟨gb359, 2, none⟩ = some (.int .i64 ((rd_T59 t350 x34_2).f2)) := (blk_cell BK359.out 2).trans rfl
                   have hcz62_3 : wc.cell? ⟨gb359, 3, none⟩ = some (.int .i64 ((rd_T59 t350 x34_2).f3)) := (blk_cell BK359.out 3).trans rfl
                   have hcz62_4 : wc.cell? ⟨gb359, 4, none⟩ = some (.int .i64 ((rd_T59 t350 x34_2).f4)) := (blk_cell BK359.out 4).trans rfl
                   have hfz62_0 := blk_frozen BK359.out 0
                   have hfz62_1 := blk_frozen BK359.out 1
                   have hfz62_2 := blk_frozen BK359.out 2
                   have hfz62_3 := blk_frozen BK359.out 3
                   have hfz62_4 := blk_frozen BK359.out 4
                   have hcz63_0 : wc.cell? ⟨gb361, 0, none⟩ = some (.int .i64 ((rd_T59 t350 x41_3).f0)) := (blk_cell BK361.out 0).trans rfl
                   have hcz63_1 : wc.cell? ⟨gb361, 1, none⟩ = some (.int .i64 ((rd_T59 t350 x41_3).f1)) := (blk_cell BK361.out 1).trans rfl
                   have hcz63_2 : wc.cell? ⟨gb361, 2, none⟩ = some (.int .i64 ((rd_T59 t350 x41_3).f2)) := (blk_cell BK361.out 2).trans rfl
                   have hcz63_3 : wc.cell? ⟨gb361, 3, none⟩ = some (.int .i64 ((rd_T59 t350 x41_3).f3)) := (blk_cell BK361.out 3).trans rfl
                   have hcz63_4 : wc.cell? ⟨gb361, 4, none⟩ = some (.int .i64 ((rd_T59 t350 x41_3).f4)) := (blk_cell BK361.out 4).trans rfl
                   have hfz63_0 := blk_frozen BK361.out 0
                   have hfz63_1 := blk_frozen BK361.out 1
                   have hfz63_2 := blk_frozen BK361.out 2
                   have hfz63_3 := blk_frozen BK361.out 3
                   have hfz63_4 := blk_frozen BK361.out 4
                   go_wp2
                   repeat (go_quiet (fail); try go_wp2)
                   go_roundg kj23
                   case measure => have := HJ7.out; have := HK2.out; have := HK3.out; have := HJ23.out; omega
                   case rel => exact ⟨(wrap64 (x41_3 + 1)), (by first | rfl | (simp; done) | (simp [*]; done)), H', ⟨by have := HJ7.out; have := HK2.out; have := HK3.out; have := HJ23.out; omega⟩, ⟨by (with_reducible repeat (first | apply Kd.R_alloc | apply Kd.R_drewN | apply Kd.R_drew)); exact Kd.R_mono HO_5.out (fun _ hk => hk.1)⟩, ⟨by (with_reducible repeat (first | apply Kd.R_alloc | apply Kd.R_drewN | apply Kd.R_drew)); exact HO_6.out⟩, ⟨by (with_reducible repeat (first | apply Kd.R_alloc | apply Kd.R_drewN | apply Kd.R_drew)); exact Kd.R_mono HO_32.out (fun _ hk => hk.1)⟩, ⟨by (with_reducible repeat (first | apply Kd.R_alloc | apply Kd.R_drewN | apply Kd.R_drew)); exact Kd.R_mono HO_39.out (fun _ hk => hk.1)⟩, ⟨by (with_reducible repeat (first | refine blk_drewN ?_ _ | refine blk_drew ?_ | refine blk_alloc ?_ _)); exact BK359.out⟩, ⟨by repeat (first | (with_reducible first | exact HB.out | apply below_alloc | apply pw_below_drewN | apply below_drew1 | refine below_set ?_ GE359.out | refine below_set ?_ GE361.out) | exact HB.out)⟩⟩
              ·rw [if_neg c23] at H
               exact absurd H (by simp)
             ·rw [if_neg c22] at H
              exact absurd H (by simp)
            ·rw [if_neg c21] at H
             have c21b0 : decide (x41_3 < (t350.length : Int)) = false := decide_eq_false c21
             clear c21
             have H' := Aside0.mk H
             clear H
             go_wp2
             repeat (go_quiet (fail); try go_wp2)
             go_roundg k3
             case measure => have := HJ7.out; have := HK2.out; have := HK3.out; omega
             case rel => exact ⟨(wrap64 (x34_2 + 1)), (by first | rfl | (simp; done) | (simp [*]; done)), H', ⟨by have := HJ7.out; have := HK2.out; have := HK3.out; omega⟩, ⟨by (with_reducible repeat (first | apply Kd.R_alloc | apply Kd.R_drewN | apply Kd.R_drew)); exact Kd.R_mono HO_5.out (fun _ hk => trivial)⟩, ⟨by (with_reducible repeat (first | apply Kd.R_alloc | apply Kd.R_drewN | apply Kd.R_drew)); exact HO_6.out⟩, ⟨by (with_reducible repeat (first | apply Kd.R_alloc | apply Kd.R_drewN | apply Kd.R_drew)); exact Kd.R_mono HO_32.out (fun _ hk => trivial)⟩, ⟨by repeat (first | (with_reducible first | exact HB.out | apply below_alloc | apply pw_below_drewN | apply below_drew1 | refine below_set ?_ GE359.out) | exact HB.out)⟩⟩
         ·rw [if_neg c18] at H
          exact absurd H (by simp)
        ·rw [if_neg c17] at H
         exact absurd H (by simp)
       ·rw [if_neg c16] at H
        have c16b0 : decide (x34_2 < (t350.length : Int)) = false := decide_eq_false c16
        clear c16
        obtain rfl := Option.some.inj H
        go_wp2
        repeat (go_quiet (fail); try go_wp2)
        go_ret
        exact ⟨by first | rfl | (simp [errW_none, errW_some] <;> rfl) | (simp [*, errW_none, errW_some] <;> rfl), by repeat (first | (with_reducible first | exact HB.out | apply below_alloc | apply pw_below_drewN | apply below_drew1) | exact HB.out)⟩
 ·replace c4 := Bool.eq_false_iff.mpr c4
  subst c4
  have H1 : (some false) = some r := by rw [if_neg (show ¬ (false = true) by decide)] at H; exact H
  clear H
  have H := H1
  clear H1
  obtain rfl := Option.some.inj H
  go_enter Try.func9, Try.ntmps9
  go_wp2_with (first | (go_at_call 31; (with_reducible refine (mootkeep4_capped.calls k  false _ A3.out).mono ?_); rintro e w64 ⟨rfl, hb⟩; have n0_ := Aside0.mk (below_step (by repeat (first | (with_reducible first | exact HB.out | apply below_alloc | apply pw_below_drewN | apply below_drew1) | exact HB.out)) hb); clear HB; have HB := n0_; clear n0_; (try clear hb); (try clear hb2); (try clear hk); (try clear hi)))
  repeat (go_quiet (first | (go_at_call 31; (with_reducible refine (mootkeep4_capped.calls k  false _ A3.out).mono ?_); rintro e w64 ⟨rfl, hb⟩; have n0_ := Aside0.mk (below_step (by repeat (first | (with_reducible first | exact HB.out | apply below_alloc | apply pw_below_drewN | apply below_drew1) | exact HB.out)) hb); clear HB; have HB := n0_; clear n0_; (try clear hb); (try clear hb2); (try clear hk); (try clear hi))); try go_wp2_with (first | (go_at_call 31; (with_reducible refine (mootkeep4_capped.calls k  false _ A3.out).mono ?_); rintro e w64 ⟨rfl, hb⟩; have n0_ := Aside0.mk (below_step (by repeat (first | (with_reducible first | exact HB.out | apply below_alloc | apply pw_below_drewN | apply below_drew1) | exact HB.out)) hb); clear HB; have HB := n0_; clear n0_; (try clear hb); (try clear hb2); (try clear hk); (try clear hi))))
  go_ret
  exact ⟨by first | rfl | (simp [errW_none, errW_some] <;> rfl) | (simp [*, errW_none, errW_some] <;> rfl), by repeat (first | (with_reducible first | exact HB.out | apply below_alloc | apply pw_below_drewN | apply below_drew1) | exact HB.out)⟩

/-- THE ONE PURE STATEMENT of mootkeep4_CapFair: yours. -/
def mootkeep4_CapFair.Pure : Prop := ∀ (l0 : List Int) (a1 : Int), l0.length ≤ maxLen → l0.length * 8 ≤ 140737488351232 → (∀ x ∈ l0, (Lit.int .i64 x).wf = true) → (Lit.int .i64 a1).wf = true → ∃ k, mootkeep4_CapFair.f k l0 a1 = some true
theorem mootkeep4_CapFair.walk (P : mootkeep4_CapFair.Pure) (a0 : Option Addr) (len0 cap0 : Nat) (z0 : List Int) (a1 : Int) (w : World) (w0 : (a0 = none ∧ len0 = 0 ∧ cap0 = 0 ∧ z0 = []) ∨ ∃ x, a0 = some x ∧ len0 ≤ cap0 ∧ cap0 ≤ maxLen ∧ z0.length = cap0 ∧ (∀ i, i < z0.length → w.cell? (x.add i) = some (.int .i64 (z0.getD i 0))) ∧ ∀ n ∈ z0, (Lit.int .i64 n).wf = true) (y0 : len0 * 8 ≤ 140737488351232) (w1 : (Lit.int .i64 a1).wf = true) :
 Calls Try.prog 9 #[.slice a0 len0 cap0, .int .i64 a1] w fun e w' => e = .returned (.bool true) ∧ Below w.heap.size w w' := by
 obtain ⟨l0, rfl, hr0, hm0, hw0, hc0⟩ := ReadsInt.ofRowC w0
 obtain ⟨k, h⟩ := P l0 a1 hm0 y0 hw0 w1
 refine (mootkeep4_CapFair.calls k _ _ l0 a1 true w (Kd.C_of_reads (d := (0 : Int)) (h1 := fun _ => rfl) hr0) hc0 h).mono ?_
 rintro e w' ⟨rfl, hd⟩
 exact ⟨rfl, hd⟩

end Go.Proofs.Ytbcaaocogphdeaa.PCap
