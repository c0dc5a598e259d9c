-- Printed by this session's wip/myprint.py.
import Derived.Test.YtbcaaocogphdeaaPCapx0
import Derived.Test.YtbcaaocogphdeaaPCapx26
import Derived.Test.YtbcaaocogphdeaaPCapx40
import Derived.Test.YtbcaaocogphdeaaPCapx48
namespace Go.Proofs.Ytbcaaocogphdeaa.PCap
open Go.RowKit Go.Proofs.YtbcaaocogphdeaaW.PrintWords Go.Proofs.YtbcaaocogphdeaaW.PrintLast Go.Proofs.YtbcaaocogphdeaaW.PrintMore
attribute [local go_sem] max2_int min2_int max_two min_two max_three min_three max_four min_four   -- for this text's walks alone
set_option linter.unusedVariables false
set_option linter.unusedSimpArgs false

/-! ### cap_Ceiling: function 35 -/
mutual
def cap_Ceiling.l0 : Nat → List (S59) → Int → List Int → List (S59) → Int → Int → List (Int × Int) → Option (List Int × Int)
 | 0, _, _, _, _, _, _, _ => none
 | k + 1, x0, x1, x7, x31, x32, x33, x388000 => if x33 < x32 then (if 0 ≤ x33 then (if x33 < (x31.length : Int) then ((ms86has.f x388000 ((rd_T59 x31 x33).f1) ((rd_T59 x31 x33).f2)).bind fun bt391 => (if bt391.1 = true then (cap_Ceiling.l0 k x0 x1 x7 x31 x32 (wrap64 (x33 + 1)) bt391.2) else ((ms86put.f bt391.2 ((rd_T59 x31 x33).f1) ((rd_T59 x31 x33).f2)).bind fun t393 => (cap_Ceiling.l1 k x0 x1 x7 ([] : List (S59)) ([] : List Int) x31 x32 x33 x0 (x0.length : Int) 0 t393 ((rd_T59 x31 x33).f0) ((rd_T59 x31 x33).f1) ((rd_T59 x31 x33).f2) ((rd_T59 x31 x33).f3) ((rd_T59 x31 x33).f4))))) else (none)) else (none)) else (some (x7, 0))
def cap_Ceiling.l1 : Nat → List (S59) → Int → List Int → List (S59) → List Int → List (S59) → Int → Int → List (S59) → Int → Int → List (Int × Int) → Int → Int → Int → Int → Int → Option (List Int × Int)
 | 0, _, _, _, _, _, _, _, _, _, _, _, _, _, _, _, _, _ => none
 | k + 1, x0, x1, x7, x12, x13, x31, x32, x33, x47, x48, x49, x388000, x390000, x390001, x390002, x390003, x390004 => if x49 < x48 then (if 0 ≤ x49 then (if x49 < (x47.length : Int) then (if ((rd_T59 x47 x49).f1) = x390001 then (if ((rd_T59 x47 x49).f2) = x390002 then (if x12.length < 3518437208883 then (if x13.length < 17592186044416 then (cap_Ceiling.l1 k x0 x1 x7 (x12 ++ [(⟨(rd_T59 x47 x49).f0, (rd_T59 x47 x49).f1, (rd_T59 x47 x49).f2, (rd_T59 x47 x49).f3, (rd_T59 x47 x49).f4⟩ : S59)]) (x13 ++ [x49]) x31 x32 x33 x47 x48 (wrap64 (x49 + 1)) x388000 x390000 x390001 x390002 x390003 x390004) else (none)) else (none)) else (cap_Ceiling.l1 k x0 x1 x7 x12 x13 x31 x32 x33 x47 x48 (wrap64 (x49 + 1)) x388000 x390000 x390001 x390002 x390003 x390004)) else (cap_Ceiling.l1 k x0 x1 x7 x12 x13 x31 x32 x33 x47 x48 (wrap64 (x49 + 1)) x388000 x390000 x390001 x390002 x390003 x390004)) else (none)) else (none)) else ((cap_Budget.f k x12 x1).bind fun bt402 => (if bt402.2 = 0 then (cap_Ceiling.l2 k x0 x1 x7 x13 x31 x32 x33 bt402.1 (bt402.1.length : Int) 0 x388000) else (some (([] : List Int), bt402.2))))
def cap_Ceiling.l2 : Nat → List (S59) → Int → List Int → List Int → List (S59) → Int → Int → List Int → Int → Int → List (Int × Int) → Option (List Int × Int)
 | 0, _, _, _, _, _, _, _, _, _, _, _ => none
 | k + 1, x0, x1, x7, x13, x31, x32, x33, x84, x85, x86, x388000 => if x86 < x85 then (if 0 ≤ x86 then (if x86 < (x84.length : Int) then (if x86 < (x13.length : Int) then (if 0 ≤ (rd x13 x86) then (if (rd x13 x86) < (x7.length : Int) then (cap_Ceiling.l2 k x0 x1 (x7.set ((rd x13 x86) : Int).toNat (rd x84 x86)) x13 x31 x32 x33 x84 x85 (wrap64 (x86 + 1)) x388000) else (none)) else (none)) else (none)) else (none)) else (none)) else (cap_Ceiling.l0 k x0 x1 x7 x31 x32 (wrap64 (x33 + 1)) x388000)
end
def cap_Ceiling.f (k : Nat) (l0 : List (S59)) (a1 : Int) : Option (List Int × Int) := (cap_Check.f k l0).bind fun t382 => (if t382 = 0 then (if a1 < 0 then (some (([] : List Int), 1)) else (if 0 ≤ (l0.length : Int) then (if ((l0.length : Int) : Int).toNat ≤ 35184372088832 then ((ms86mk.f).bind fun t386 => (cap_Ceiling.l0 k l0 a1 (List.replicate ((l0.length : Int) : Int).toNat 0) l0 (l0.length : Int) 0 t386)) else (none)) else (none))) else (some (([] : List Int), t382)))
theorem cap_Ceiling.mono_l : ∀ k, (∀ y0 y1 y2 y3 y4 y5 y6, LeO (cap_Ceiling.l0 k y0 y1 y2 y3 y4 y5 y6) (cap_Ceiling.l0 (k + 1) y0 y1 y2 y3 y4 y5 y6)) ∧ (∀ y0 y1 y2 y3 y4 y5 y6 y7 y8 y9 y10 y11 y12 y13 y14 y15 y16, LeO (cap_Ceiling.l1 k y0 y1 y2 y3 y4 y5 y6 y7 y8 y9 y10 y11 y12 y13 y14 y15 y16) (cap_Ceiling.l1 (k + 1) y0 y1 y2 y3 y4 y5 y6 y7 y8 y9 y10 y11 y12 y13 y14 y15 y16)) ∧ (∀ y0 y1 y2 y3 y4 y5 y6 y7 y8 y9 y10, LeO (cap_Ceiling.l2 k y0 y1 y2 y3 y4 y5 y6 y7 y8 y9 y10) (cap_Ceiling.l2 (k + 1) y0 y1 y2 y3 y4 y5 y6 y7 y8 y9 y10))
 | 0 => ⟨fun _ _ _ _ _ _ _ r h => by simp [cap_Ceiling.l0] at h, fun _ _ _ _ _ _ _ _ _ _ _ _ _ _ _ _ _ r h => by simp [cap_Ceiling.l1] at h, fun _ _ _ _ _ _ _ _ _ _ _ r h => by simp [cap_Ceiling.l2] at h⟩
 | k + 1 => by
  obtain ⟨ih0, ih1, ih2⟩ := cap_Ceiling.mono_l k
  refine ⟨?_, ?_, ?_⟩
  ·intro y0 y1 y2 y3 y4 y5 y6
   unfold cap_Ceiling.l0
   repeat' first
   | (with_reducible exact ih0 _ _ _ _ _ _ _)
   | (with_reducible exact ih1 _ _ _ _ _ _ _ _ _ _ _ _ _ _ _ _ _)
   | (with_reducible exact ih2 _ _ _ _ _ _ _ _ _ _ _)
   | (with_reducible exact cap_Budget.mono _ _ _)
   | (with_reducible exact cap_Check.mono _ _)
   | (with_reducible exact LeO.refl _)
   | (with_reducible exact LeO.none _)
   | (with_reducible refine LeO.ite ?_ ?_)
   | (with_reducible refine LeO.bind ?_ (fun _ => ?_))
   | exact ih0 _ _ _ _ _ _ _
   | exact ih1 _ _ _ _ _ _ _ _ _ _ _ _ _ _ _ _ _
   | exact ih2 _ _ _ _ _ _ _ _ _ _ _
   | exact cap_Budget.mono _ _ _
   | exact cap_Check.mono _ _
   | exact LeO.none _
   | refine LeO.ite ?_ ?_
   | refine LeO.bind ?_ (fun _ => ?_)
  ·intro y0 y1 y2 y3 y4 y5 y6 y7 y8 y9 y10 y11 y12 y13 y14 y15 y16
   unfold cap_Ceiling.l1
   repeat' first
   | (with_reducible exact ih0 _ _ _ _ _ _ _)
   | (with_reducible exact ih1 _ _ _ _ _ _ _ _ _ _ _ _ _ _ _ _ _)
   | (with_reducible exact ih2 _ _ _ _ _ _ _ _ _ _ _)
   | (with_reducible exact cap_Budget.mono _ _ _)
   | (with_reducible exact cap_Check.mono _ _)
   | (with_reducible exact LeO.refl _)
   | (with_reducible exact LeO.none _)
   | (with_reducible refine LeO.ite ?_ ?_)
   | (with_reducible refine LeO.bind ?_ (fun _ => ?_))
   | exact ih0 _ _ _ _ _ _ _
   | exact ih1 _ _ _ _ _ _ _ _ _ _ _ _ _ _ _ _ _
   | exact ih2 _ _ _ _ _ _ _ _ _ _ _
   | exact cap_Budget.mono _ _ _
   | exact cap_Check.mono _ _
   | exact LeO.none _
   | refine LeO.ite ?_ ?_
   | refine LeO.bind ?_ (fun _ => ?_)
  ·intro y0 y1 y2 y3 y4 y5 y6 y7 y8 y9 y10
   unfold cap_Ceiling.l2
   repeat' first
   | (with_reducible exact ih0 _ _ _ _ _ _ _)
   | (with_reducible exact ih1 _ _ _ _ _ _ _ _ _ _ _ _ _ _ _ _ _)
   | (with_reducible exact ih2 _ _ _ _ _ _ _ _ _ _ _)
   | (with_reducible exact cap_Budget.mono _ _ _)
   | (with_reducible exact cap_Check.mono _ _)
   | (with_reducible exact LeO.refl _)
   | (with_reducible exact LeO.none _)
   | (with_reducible refine LeO.ite ?_ ?_)
   | (with_reducible refine LeO.bind ?_ (fun _ => ?_))
   | exact ih0 _ _ _ _ _ _ _
   | exact ih1 _ _ _ _ _ _ _ _ _ _ _ _ _ _ _ _ _
   | exact ih2 _ _ _ _ _ _ _ _ _ _ _
   | exact cap_Budget.mono _ _ _
   | exact cap_Check.mono _ _
   | exact LeO.none _
   | refine LeO.ite ?_ ?_
   | refine LeO.bind ?_ (fun _ => ?_)
theorem cap_Ceiling.mono : ∀ a0 a1 k, LeO (cap_Ceiling.f k a0 a1) (cap_Ceiling.f (k + 1) a0 a1) := by
 intro a0 a1 k
 obtain ⟨ih0, ih1, ih2⟩ := cap_Ceiling.mono_l k
 unfold cap_Ceiling.f
 repeat' first
  | (with_reducible exact ih0 _ _ _ _ _ _ _)
  | (with_reducible exact ih1 _ _ _ _ _ _ _ _ _ _ _ _ _ _ _ _ _)
  | (with_reducible exact ih2 _ _ _ _ _ _ _ _ _ _ _)
  | (with_reducible exact cap_Budget.mono _ _ _)
  | (with_reducible exact cap_Check.mono _ _)
  | (with_reducible exact LeO.refl _)
  | (with_reducible exact LeO.none _)
  | (with_reducible refine LeO.ite ?_ ?_)
  | (with_reducible refine LeO.bind ?_ (fun _ => ?_))
  | exact ih0 _ _ _ _ _ _ _
  | exact ih1 _ _ _ _ _ _ _ _ _ _ _ _ _ _ _ _ _
  | exact ih2 _ _ _ _ _ _ _ _ _ _ _
  | exact cap_Budget.mono _ _ _
  | exact cap_Check.mono _ _
  | exact LeO.none _
  | refine LeO.ite ?_ ?_
  | refine LeO.bind ?_ (fun _ => ?_)
set_option maxHeartbeats 8000000 in
set_option maxRecDepth 100000 in
theorem cap_Ceiling.calls (k : Nat) (A0 : Option Addr) (c0 : Nat) (l0 : List (S59)) (a1 : Int) (r1 : List Int) (r2 : Int) (w : World) (hr0 : Kd.C k59 w A0 l0.length l0) (hc0 : l0.length ≤ c0) (h : cap_Ceiling.f k l0 a1 = some (r1, r2)) :
 Calls Try.prog 35 #[.slice A0 l0.length c0, .int .i64 a1] w fun e w' => ∃ v0_ : Value, e = .returned (.tuple #[v0_, .int .i64 r2]) ∧ Kd.R (Kd.int .i64) 3 w' w.heap.size (fun _ => True) v0_ r1 ∧ Below w.heap.size w w' := by
 have hu59 := Try.underlying59
 have hu88 := Try.underlying88
 have HR0 := Aside0.mk hr0
 have HC0 := Aside0.mk hc0
 clear hr0 hc0
 have HB := Aside0.mk (Below.refl w.heap.size w)
 have H : ((cap_Check.f k l0).bind fun t382 => (if t382 = 0 then (if a1 < 0 then (some (([] : List Int), 1)) else (if 0 ≤ (l0.length : Int) then (if ((l0.length : Int) : Int).toNat ≤ 35184372088832 then ((ms86mk.f).bind fun t386 => (cap_Ceiling.l0 k l0 a1 (List.replicate ((l0.length : Int) : Int).toNat 0) l0 (l0.length : Int) 0 t386)) else (none)) else (none))) else (some (([] : List Int), t382)))) = some (r1, r2) := h
 clear h
 replace H := Option.bind_eq_some_iff.mp H
 obtain ⟨t382, A30, H⟩ := H
 replace H : (if t382 = 0 then (if a1 < 0 then (some (([] : List Int), 1)) else (if 0 ≤ (l0.length : Int) then (if ((l0.length : Int) : Int).toNat ≤ 35184372088832 then ((ms86mk.f).bind fun t386 => (cap_Ceiling.l0 k l0 a1 (List.replicate ((l0.length : Int) : Int).toNat 0) l0 (l0.length : Int) 0 t386)) else (none)) else (none))) else (some (([] : List Int), t382))) = some (r1, r2) := H
 have A3 := Aside0.mk A30
 clear A30
 by_cases c4 : t382 = 0
 ·rw [if_pos c4] at H
  have c4b0 : (t382 == 0) = true := beq_iff_eq.mpr c4
  have c4b1 : (t382 != 0) = false := bne_eq_false_iff_eq.mpr c4
  clear c4
  by_cases c5 : a1 < 0
  ·rw [if_pos c5] at H
   have c5b0 : decide (a1 < 0) = true := decide_eq_true c5
   clear c5
   simp only [Option.some.injEq, Prod.mk.injEq] at H
   obtain ⟨rfl, rfl⟩ := H
   go_enter Try.func35, Try.ntmps35
   go_wp2_with (first | ((with_reducible refine gate_callee (f := 39) rfl ?_); refine goesL_ (some 21) rfl rfl Try.func39 (by kernel_rfl) rfl #[.slice A0 l0.length c0] rfl (by (try simp only [List.map_toArray, List.map_cons, List.map_nil]); first | done | rfl | (simp only [List.length_drop, List.length_take]; rfl)) ?_; (with_reducible refine (cap_Check.calls k _ _ l0 t382 _ ?side1 ?side2 A3.out).mono ?_); (case side1 => repeat (first | exact HR0.out | (with_reducible refine Kd.C_alloc ?_ _) | (with_reducible refine Kd.C_drewN ?_ _) | (with_reducible refine Kd.C_drew ?_))); (case side2 => exact HC0.out); rintro e w6 ⟨rfl, hb⟩; refine ⟨_, rfl, ?_⟩; have n0_ := Aside0.mk (below_step (by repeat (first | (with_reducible first | exact HB.out | apply below_alloc | apply pw_below_drewN | apply below_drew1) | exact HB.out)) hb); clear HB; have HB := n0_; clear n0_; (try clear hb); (try clear hb2); (try clear hk); (try clear hi)))
   go_ret2
   exact ⟨_, by first | rfl | (simp [errW_none, errW_some] <;> rfl) | (simp [*, errW_none, errW_some] <;> rfl), by first | exact Kd.R_nil _ _ _ _ _ | exact Kd.N_nil _ _ _ _ _ | exact Kd.V_nil _ _ _ _ _ | exact Kd.Q_nil _ _ _ _ _ | exact Kd.S_nil _ _ _ _ _, by repeat (first | (with_reducible first | exact HB.out | apply below_alloc | apply pw_below_drewN | apply below_drew1) | exact HB.out)⟩
  ·rw [if_neg c5] at H
   have c5b0 : decide (a1 < 0) = false := decide_eq_false c5
   clear c5
   by_cases c7 : 0 ≤ (l0.length : Int)
   ·rw [if_pos c7] at H
    have c7b0 := eq_true c7
    have c7b1 : decide (0 ≤ (l0.length : Int)) = true := decide_eq_true c7
    clear c7
    by_cases c8 : ((l0.length : Int) : Int).toNat ≤ 35184372088832
    ·rw [if_pos c8] at H
     have c8b0 := eq_true c8
     have c8b1 : decide (((l0.length : Int) : Int).toNat ≤ 35184372088832) = true := decide_eq_true c8
     clear c8
     obtain ⟨y383, hy383⟩ : ∃ y_ : List Int, y_ = (List.replicate ((l0.length : Int) : Int).toNat 0) := ⟨_, rfl⟩
     replace H : ((ms86mk.f).bind fun t386 => (cap_Ceiling.l0 k l0 a1 y383 l0 (l0.length : Int) 0 t386)) = some (r1, r2) := by first | (rw [hy383]; with_reducible exact H) | (have H2_ := (Option.bind_some _ _).symm.trans H; rw [hy383]; with_reducible exact H2_) | (have H2_ := (Option.bind_some _ _).symm.trans H; with_reducible exact H2_) | with_reducible exact H | (rw [hy383]; exact H) | exact H
     have Ny383 := Aside0.mk hy383
     clear hy383
     replace H := Option.bind_eq_some_iff.mp H
     obtain ⟨t386, A90, H⟩ := H
     replace H : (cap_Ceiling.l0 k l0 a1 y383 l0 (l0.length : Int) 0 t386) = some (r1, r2) := H
     have A9 := Aside0.mk A90
     clear A90
     have H' := Aside0.mk H
     clear H
     go_enter Try.func35, Try.ntmps35
     go_wp2_with (first | ((with_reducible refine gate_callee (f := 39) rfl ?_); refine goesL_ (some 21) rfl rfl Try.func39 (by kernel_rfl) rfl #[.slice A0 l0.length c0] rfl (by (try simp only [List.map_toArray, List.map_cons, List.map_nil]); first | done | rfl | (simp only [List.length_drop, List.length_take]; rfl)) ?_; (with_reducible refine (cap_Check.calls k _ _ l0 t382 _ ?side1 ?side2 A3.out).mono ?_); (case side1 => repeat (first | exact HR0.out | (with_reducible refine Kd.C_alloc ?_ _) | (with_reducible refine Kd.C_drewN ?_ _) | (with_reducible refine Kd.C_drew ?_))); (case side2 => exact HC0.out); rintro e w10 ⟨rfl, hb⟩; refine ⟨_, rfl, ?_⟩; have n0_ := Aside0.mk (below_step (by repeat (first | (with_reducible first | exact HB.out | apply below_alloc | apply pw_below_drewN | apply below_drew1) | exact HB.out)) hb); clear HB; have HB := n0_; clear n0_; (try clear hb); (try clear hb2); (try clear hk); (try clear hi)) | ((with_reducible refine gate_dst (N := 29) rfl ?_); refine Kd.R_make (Kd.int .i64) _ 3 rfl (N := 29) rfl 22 _ _ rfl (l0.length : Int) rfl rfl Try.underlying22 (.int .i64 0) 8 info3 rfl (by decide) (by omega) 0 (ok := fun _ => True) (okp := fun _ => True) rfl (fun _ hk => hk) trivial (of_decide_eq_true (by first | (with_reducible assumption) | assumption)) (Nat.le_trans (Nat.mul_le_mul_right _ (of_decide_eq_true (by first | (with_reducible assumption) | assumption) : (l0.length : Int).toNat ≤ 35184372088832)) (by omega)) (Below.refl _ _) (Nat.le_refl _) ?_; intro v384 w11 ho12 hb hg_ hnew_; clear hg_ hnew_; (first | rw [← Ny383.out] at ho12 | (simp only [Int.reduceToNat] at ho12; rw [← Ny383.out] at ho12)); have n0_ := Aside0.mk (Kd.R_lower ho12 (below_size (by repeat (first | (with_reducible first | exact HB.out | apply below_alloc | apply pw_below_drewN | apply below_drew1) | exact HB.out)))); have n1_ := Aside0.mk (below_step (by repeat (first | (with_reducible first | exact HB.out | apply below_alloc | apply pw_below_drewN | apply below_drew1) | exact HB.out)) hb); clear HB; have HO385 := n0_; have HB := n1_; clear n0_ n1_; clear hb ho12) | ((with_reducible refine gate_ (.makeMap 86 none) rfl ?_); refine ms86mk.ev rfl rfl t386 w _ ?side1 A9.out ?_; (case side1 => repeat (first | (with_reducible first | exact HB.out | apply below_alloc | apply pw_below_drewN | apply below_drew1) | exact HB.out)); intro g387 w13 hi hb hb2; have n0_ := Aside0.mk (Kd.R_below (by (with_reducible repeat (first | apply Kd.R_alloc | apply Kd.R_drewN | apply Kd.R_drew)); exact HO385.out) hb2); have n1_ := Aside0.mk (hb); have n2_ := Aside0.mk (hi); clear HO385; clear HB; have HO385 := n0_; have HB := n1_; have HI387 := n2_; clear n0_ n1_ n2_; (try clear hb); (try clear hb2); (try clear hk); (try clear hi)))
     go_loopg [33] k (fun kq v33 w' => ∃ (x7_1 : List Int) (x33_1 : Int) (x388000_1 : List (Int × Int)), v33 = .int .i64 x33_1 ∧ Aside0 (cap_Ceiling.l0 kq l0 a1 x7_1 l0 (l0.length : Int) x33_1 x388000_1 = some (r1, r2)) ∧ Aside0 (kq ≤ k) ∧ Aside0 (Kd.R (Kd.int .i64) 3 w' w.heap.size (fun _ => True) v384 x7_1) ∧ Aside0 (IsS86 w w' g387 x388000_1) ∧ Aside0 (Below w.heap.size w w'))
     case atStart => exact ⟨(y383), (0), (t386), (by first | rfl | (simp; done) | (simp [*]; done)), H', ⟨Nat.le_refl _⟩, ⟨by (with_reducible repeat (first | apply Kd.R_alloc | apply Kd.R_drewN | apply Kd.R_drew)); exact HO385.out⟩, ⟨by repeat (first | (with_reducible first | exact HI387.out | apply IsS86.alloc | apply IsS86.drewN | apply IsS86.drew | apply IsS86.set_0) | exact HI387.out)⟩, ⟨by repeat (first | (with_reducible first | exact HB.out | apply below_alloc | apply pw_below_drewN | apply below_drew1 | refine below_set ?_ (IsS86.ge HI387.out)) | exact HB.out)⟩⟩
     case round =>
      clear H'
      try clear p2
      try clear c3
      try clear c4
      try clear c4b0
      try clear c4b1
      try clear c5
      try clear c5b0
      try clear c7
      try clear c7b0
      try clear c7b1
      try clear c8
      try clear c8b0
      try clear c8b1
      obtain ⟨x7_1, x33_1, x388000_1, rfl, HA, HK1, HO_7, HI387, HB⟩ := hrel
      cases gk with
      | zero => exact absurd HA.out (by simp [cap_Ceiling.l0])
      | succ k1 =>
       have H := HA.out
       clear HA
       simp only [cap_Ceiling.l0] at H
       by_cases c14 : x33_1 < (l0.length : Int)
       ·rw [if_pos c14] at H
        have c14b0 : decide (x33_1 < (l0.length : Int)) = true := decide_eq_true c14
        clear c14
        by_cases c15 : 0 ≤ x33_1
        ·rw [if_pos c15] at H
         have c15b0 : decide (0 ≤ x33_1) = true := decide_eq_true c15
         clear c15
         by_cases c16 : x33_1 < (l0.length : Int)
         ·rw [if_pos c16] at H
          have c16b0 : decide (x33_1 < (l0.length : Int)) = true := decide_eq_true c16
          clear c16
          replace H := Option.bind_eq_some_iff.mp H
          obtain ⟨⟨t391, t392⟩, A170, H⟩ := H
          replace H : (if t391 = true then (cap_Ceiling.l0 k1 l0 a1 x7_1 l0 (l0.length : Int) (wrap64 (x33_1 + 1)) t392) else ((ms86put.f t392 ((rd_T59 l0 x33_1).f1) ((rd_T59 l0 x33_1).f2)).bind fun t393 => (cap_Ceiling.l1 k1 l0 a1 x7_1 ([] : List (S59)) ([] : List Int) l0 (l0.length : Int) x33_1 l0 (l0.length : Int) 0 t393 ((rd_T59 l0 x33_1).f0) ((rd_T59 l0 x33_1).f1) ((rd_T59 l0 x33_1).f2) ((rd_T59 l0 x33_1).f3) ((rd_T59 l0 x33_1).f4)))) = some (r1, r2) := H
          have A17 := Aside0.mk A170
          clear A170
          by_cases c18 : t391 = true
          ·subst c18
           have H1 : (cap_Ceiling.l0 k1 l0 a1 x7_1 l0 (l0.length : Int) (wrap64 (x33_1 + 1)) t392) = some (r1, r2) := by rw [if_pos rfl] at H; exact H
           clear H
           have H := H1
           clear H1
           have H' := Aside0.mk H
           clear H
           have p388 : 0 ≤ (x33_1 : Int) := of_decide_eq_true (by first | (with_reducible assumption) | assumption)
           have q388 : x33_1 < (l0.length : Int) := of_decide_eq_true (by first | (with_reducible assumption) | assumption)
           obtain ⟨ad388, e388, hx388_0, hx388_1, hx388_2, hx388_3, hx388_4⟩ := at_T59 HR0.out x33_1 p388 q388
           cases e388
           replace hx388_0 := (HB.out.cell (World.block_lt_of_cell? w _ hx388_0)).trans hx388_0
           replace hx388_1 := (HB.out.cell (World.block_lt_of_cell? w _ hx388_1)).trans hx388_1
           replace hx388_2 := (HB.out.cell (World.block_lt_of_cell? w _ hx388_2)).trans hx388_2
           replace hx388_3 := (HB.out.cell (World.block_lt_of_cell? w _ hx388_3)).trans hx388_3
           replace hx388_4 := (HB.out.cell (World.block_lt_of_cell? w _ hx388_4)).trans hx388_4
           replace p388 := eq_true p388
           replace q388 := eq_true q388
           go_wp2_with (first | ((with_reducible refine gate_dst (N := 10) rfl ?_); refine box_event ?hg (N := 10) ?hd (cs := #[.int .i64 0, .int .i64 0, .int .i64 0, .int .i64 0, .int .i64 0]) (t := 59) ?hr ?_; (case hd => rfl); (case hg => rfl); (case hr => first | (go_simp; done) | (go_simp; rfl)); intro gb389 hg w19 hbox hb; have n0_ := Aside0.mk (Kd.R_below (by (with_reducible repeat (first | apply Kd.R_alloc | apply Kd.R_drewN | apply Kd.R_drew)); exact HO_7.out) hb); have n1_ := Aside0.mk (IsS86.below (by repeat (first | (with_reducible first | exact HI387.out | apply IsS86.alloc | apply IsS86.drewN | apply IsS86.drew | apply IsS86.set_0) | exact HI387.out)) hb); have n2_ := Aside0.mk (below_step (by repeat (first | (with_reducible first | exact HB.out | apply below_alloc | apply pw_below_drewN | apply below_drew1 | refine below_set ?_ (IsS86.ge HI387.out)) | exact HB.out)) hb); have n3_ := Aside0.mk (hbox); have n4_ := Aside0.mk ((by rw [hg]; exact (below_size (by repeat (first | (with_reducible first | exact HB.out | apply below_alloc | apply pw_below_drewN | apply below_drew1 | refine below_set ?_ (IsS86.ge HI387.out)) | exact HB.out))) : w.heap.size ≤ gb389)); have n5_ := Aside0.mk ((by rw [hg]; exact (below_size (by repeat (first | (with_reducible first | exact HB.out | apply below_alloc | apply pw_below_drewN | apply below_drew1 | refine below_set ?_ (IsS86.ge HI387.out)) | exact HB.out))) : w.heap.size ≤ gb389)); have n6_ := Aside0.mk ((by rw [hg]; exact Nat.ne_of_lt (IsS86.lt (show IsS86 w _ g387 x388000_1 from by repeat (first | (with_reducible first | exact HI387.out | apply IsS86.alloc | apply IsS86.drewN | apply IsS86.drew | apply IsS86.set_0) | exact HI387.out))) : g387 ≠ gb389)); have n7_ := Aside0.mk ((by rw [hg]; exact Nat.ne_of_gt (IsS86.lt (show IsS86 w _ g387 x388000_1 from by repeat (first | (with_reducible first | exact HI387.out | apply IsS86.alloc | apply IsS86.drewN | apply IsS86.drew | apply IsS86.set_0) | exact HI387.out))) : gb389 ≠ g387)); clear HO_7; clear HI387; clear HB; have HO_7 := n0_; have HI387 := n1_; have HB := n2_; have BK389 := n3_; have GW389 := n4_; have GE389 := n5_; have NB387_389 := n6_; have NB389_387 := n7_; clear n0_ n1_ n2_ n3_ n4_ n5_ n6_ n7_; clear hb hbox hg; have hnb20 := NB389_387.out; have hnc20 := NB387_389.out; have hcz21_0 : w19.cell? ⟨gb389, 0, none⟩ = some (.int .i64 0) := (blk_cell BK389.out 0).trans rfl; have hcz21_1 : w19.cell? ⟨gb389, 1, none⟩ = some (.int .i64 0) := (blk_cell BK389.out 1).trans rfl; have hcz21_2 : w19.cell? ⟨gb389, 2, none⟩ = some (.int .i64 0) := (blk_cell BK389.out 2).trans rfl; have hcz21_3 : w19.cell? ⟨gb389, 3, none⟩ = some (.int .i64 0) := (blk_cell BK389.out 3).trans rfl; have hcz21_4 : w19.cell? ⟨gb389, 4, none⟩ = some (.int .i64 0) := (blk_cell BK389.out 4).trans rfl; have hfz21_0 := blk_frozen BK389.out 0; have hfz21_1 := blk_frozen BK389.out 1; have hfz21_2 := blk_frozen BK389.out 2; have hfz21_3 := blk_frozen BK389.out 3; have hfz21_4 := blk_frozen BK389.out 4) | ((with_reducible refine gate_store (t := 59) (p := 10) rfl ?_); refine store_event (t := 59) (p := 10) (v := ?vo_w22) (w1 := (((((w19.setCell ⟨gb389, 0, none⟩ (.int .i64 ((rd_T59 l0 x33_1).f0))).setCell ⟨gb389, 1, none⟩ (.int .i64 ((rd_T59 l0 x33_1).f1))).setCell ⟨gb389, 2, none⟩ (.int .i64 ((rd_T59 l0 x33_1).f2))).setCell ⟨gb389, 3, none⟩ (.int .i64 ((rd_T59 l0 x33_1).f3))).setCell ⟨gb389, 4, none⟩ (.int .i64 ((rd_T59 l0 x33_1).f4)))) ?hg ?ho ?hn ?hr ?_; (case ho => rfl); (case hg => rfl); (case hn => rfl); (case hr => first | (go_simp; done) | (go_simp; rfl)); intro w22 hw; have n0_ : Aside0 (Kd.R (Kd.int .i64) 3 w22 w.heap.size (fun _ => True) v384 x7_1) := ⟨(by rw [hw]; exact (by (with_reducible repeat (first | apply Kd.R_alloc | apply Kd.R_drewN | apply Kd.R_drew)); exact Kd.R_mono (Kd.R_far (p := ⟨gb389, 4, none⟩) (Kd.R_far (p := ⟨gb389, 3, none⟩) (Kd.R_far (p := ⟨gb389, 2, none⟩) (Kd.R_far (p := ⟨gb389, 1, none⟩) (Kd.R_far (p := ⟨gb389, 0, none⟩) (Kd.R_types HO_7.out BK389.out (by decide)) (fun _ hk => hk.2) (.int .i64 ((rd_T59 l0 x33_1).f0))) (fun _ hk => hk.2) (.int .i64 ((rd_T59 l0 x33_1).f1))) (fun _ hk => hk.2) (.int .i64 ((rd_T59 l0 x33_1).f2))) (fun _ hk => hk.2) (.int .i64 ((rd_T59 l0 x33_1).f3))) (fun _ hk => hk.2) (.int .i64 ((rd_T59 l0 x33_1).f4))) (fun _ hk => trivial)))⟩; have n1_ : Aside0 (w22.heap[gb389]? = some (.cells #[.int .i64 ((rd_T59 l0 x33_1).f0), .int .i64 ((rd_T59 l0 x33_1).f1), .int .i64 ((rd_T59 l0 x33_1).f2), .int .i64 ((rd_T59 l0 x33_1).f3), .int .i64 ((rd_T59 l0 x33_1).f4)] 59 (0, 0))) := ⟨(by rw [hw]; exact (by (with_reducible repeat (first | refine blk_drewN ?_ _ | refine blk_drew ?_ | refine blk_alloc ?_ _)); refine blk_put (cs := #[.int .i64 ((rd_T59 l0 x33_1).f0), .int .i64 ((rd_T59 l0 x33_1).f1), .int .i64 ((rd_T59 l0 x33_1).f2), .int .i64 ((rd_T59 l0 x33_1).f3), .int .i64 0]) ?_ 4 _ rfl; (with_reducible repeat (first | refine blk_drewN ?_ _ | refine blk_drew ?_ | refine blk_alloc ?_ _)); refine blk_put (cs := #[.int .i64 ((rd_T59 l0 x33_1).f0), .int .i64 ((rd_T59 l0 x33_1).f1), .int .i64 ((rd_T59 l0 x33_1).f2), .int .i64 0, .int .i64 0]) ?_ 3 _ rfl; (with_reducible repeat (first | refine blk_drewN ?_ _ | refine blk_drew ?_ | refine blk_alloc ?_ _)); refine blk_put (cs := #[.int .i64 ((rd_T59 l0 x33_1).f0), .int .i64 ((rd_T59 l0 x33_1).f1), .int .i64 0, .int .i64 0, .int .i64 0]) ?_ 2 _ rfl; (with_reducible repeat (first | refine blk_drewN ?_ _ | refine blk_drew ?_ | refine blk_alloc ?_ _)); refine blk_put (cs := #[.int .i64 ((rd_T59 l0 x33_1).f0), .int .i64 0, .int .i64 0, .int .i64 0, .int .i64 0]) ?_ 1 _ rfl; (with_reducible repeat (first | refine blk_drewN ?_ _ | refine blk_drew ?_ | refine blk_alloc ?_ _)); refine blk_put (cs := #[.int .i64 0, .int .i64 0, .int .i64 0, .int .i64 0, .int .i64 0]) ?_ 0 _ rfl; (with_reducible repeat (first | refine blk_drewN ?_ _ | refine blk_drew ?_ | refine blk_alloc ?_ _)); exact BK389.out))⟩; have n2_ : Aside0 (IsS86 w w22 g387 x388000_1) := ⟨(by rw [hw]; exact (by repeat (first | (with_reducible first | exact HI387.out | apply IsS86.alloc | apply IsS86.drewN | apply IsS86.drew | apply IsS86.set_0 | refine IsS86.far ?_ NB387_389.out _) | exact HI387.out)))⟩; have n3_ : Aside0 (Below w.heap.size w w22) := ⟨(by rw [hw]; exact (by repeat (first | (with_reducible first | exact HB.out | apply below_alloc | apply pw_below_drewN | apply below_drew1 | refine below_set ?_ (IsS86.ge HI387.out) | refine below_set ?_ GE389.out) | exact HB.out)))⟩; clear hw; clear HO_7; clear BK389; clear HI387; clear HB; have HO_7 := n0_; have BK389 := n1_; have HI387 := n2_; have HB := n3_; clear n0_ n1_ n2_ n3_; have hcz23_0 : w22.cell? ⟨gb389, 0, none⟩ = some (.int .i64 ((rd_T59 l0 x33_1).f0)) := (blk_cell BK389.out 0).trans rfl; have hcz23_1 : w22.cell? ⟨gb389, 1, none⟩ = some (.int .i64 ((rd_T59 l0 x33_1).f1)) := (blk_cell BK389.out 1).trans rfl; have hcz23_2 : w22.cell? ⟨gb389, 2, none⟩ = some (.int .i64 ((rd_T59 l0 x33_1).f2)) := (blk_cell BK389.out 2).trans rfl; have hcz23_3 : w22.cell? ⟨gb389, 3, none⟩ = some (.int .i64 ((rd_T59 l0 x33_1).f3)) := (blk_cell BK389.out 3).trans rfl; have hcz23_4 : w22.cell? ⟨gb389, 4, none⟩ = some (.int .i64 ((rd_T59 l0 x33_1).f4)) := (blk_cell BK389.out 4).trans rfl; have hfz23_0 := blk_frozen BK389.out 0; have hfz23_1 := blk_frozen BK389.out 1; have hfz23_2 := blk_frozen BK389.out 2; have hfz23_3 := blk_frozen BK389.out 3; have hfz23_4 := blk_frozen BK389.out 4) | ((with_reducible refine gate_dst (N := 11) rfl ?_); refine box_event ?hg (N := 11) ?hd (cs := #[.int .i64 0, .int .i64 0]) (t := 88) ?hr ?_; (case hd => rfl); (case hg => rfl); (case hr => first | (go_simp; done) | (go_simp; rfl)); intro gb390 hg w24 hbox hb; have n0_ := Aside0.mk (Kd.R_below (by (with_reducible repeat (first | apply Kd.R_alloc | apply Kd.R_drewN | apply Kd.R_drew)); exact HO_7.out) hb); have n1_ := Aside0.mk (IsS86.below (by repeat (first | (with_reducible first | exact HI387.out | apply IsS86.alloc | apply IsS86.drewN | apply IsS86.drew | apply IsS86.set_0 | refine IsS86.far ?_ NB387_389.out _) | exact HI387.out)) hb); have n2_ := Aside0.mk (blk_below (g := gb389) (o := .cells #[.int .i64 ((rd_T59 l0 x33_1).f0), .int .i64 ((rd_T59 l0 x33_1).f1), .int .i64 ((rd_T59 l0 x33_1).f2), .int .i64 ((rd_T59 l0 x33_1).f3), .int .i64 ((rd_T59 l0 x33_1).f4)] 59 (0, 0)) (by (with_reducible repeat (first | refine blk_drewN ?_ _ | refine blk_drew ?_ | refine blk_alloc ?_ _)); exact BK389.out) hb); have n3_ := Aside0.mk (below_step (by repeat (first | (with_reducible first | exact HB.out | apply below_alloc | apply pw_below_drewN | apply below_drew1 | refine below_set ?_ (IsS86.ge HI387.out) | refine below_set ?_ GE389.out) | exact HB.out)) hb); have n4_ := Aside0.mk (hbox); have n5_ := Aside0.mk ((by rw [hg]; exact (below_size (by repeat (first | (with_reducible first | exact HB.out | apply below_alloc | apply pw_below_drewN | apply below_drew1 | refine below_set ?_ (IsS86.ge HI387.out) | refine below_set ?_ GE389.out) | exact HB.out))) : w.heap.size ≤ gb390)); have n6_ := Aside0.mk ((by rw [hg]; exact (below_size (by repeat (first | (with_reducible first | exact HB.out | apply below_alloc | apply pw_below_drewN | apply below_drew1 | refine below_set ?_ (IsS86.ge HI387.out) | refine below_set ?_ GE389.out) | exact HB.out))) : w.heap.size ≤ gb390)); have n7_ := Aside0.mk ((by rw [hg]; exact Nat.ne_of_lt (blk_lt (g := gb389) (o := .cells #[.int .i64 ((rd_T59 l0 x33_1).f0), .int .i64 ((rd_T59 l0 x33_1).f1), .int .i64 ((rd_T59 l0 x33_1).f2), .int .i64 ((rd_T59 l0 x33_1).f3), .int .i64 ((rd_T59 l0 x33_1).f4)] 59 (0, 0)) (by (with_reducible repeat (first | refine blk_drewN ?_ _ | refine blk_drew ?_ | refine blk_alloc ?_ _)); exact BK389.out)) : gb389 ≠ gb390)); have n8_ := Aside0.mk ((by rw [hg]; exact Nat.ne_of_gt (blk_lt (g := gb389) (o := .cells #[.int .i64 ((rd_T59 l0 x33_1).f0), .int .i64 ((rd_T59 l0 x33_1).f1), .int .i64 ((rd_T59 l0 x33_1).f2), .int .i64 ((rd_T59 l0 x33_1).f3), .int .i64 ((rd_T59 l0 x33_1).f4)] 59 (0, 0)) (by (with_reducible repeat (first | refine blk_drewN ?_ _ | refine blk_drew ?_ | refine blk_alloc ?_ _)); exact BK389.out)) : gb390 ≠ gb389)); have n9_ := Aside0.mk ((by rw [hg]; exact Nat.ne_of_lt (IsS86.lt (show IsS86 w _ g387 x388000_1 from by repeat (first | (with_reducible first | exact HI387.out | apply IsS86.alloc | apply IsS86.drewN | apply IsS86.drew | apply IsS86.set_0 | refine IsS86.far ?_ NB387_389.out _) | exact HI387.out))) : g387 ≠ gb390)); have n10_ := Aside0.mk ((by rw [hg]; exact Nat.ne_of_gt (IsS86.lt (show IsS86 w _ g387 x388000_1 from by repeat (first | (with_reducible first | exact HI387.out | apply IsS86.alloc | apply IsS86.drewN | apply IsS86.drew | apply IsS86.set_0 | refine IsS86.far ?_ NB387_389.out _) | exact HI387.out))) : gb390 ≠ g387)); clear HO_7; clear HI387; clear BK389; clear HB; have HO_7 := n0_; have HI387 := n1_; have BK389 := n2_; have HB := n3_; have BK390 := n4_; have GW390 := n5_; have GE390 := n6_; have NB389_390 := n7_; have NB390_389 := n8_; have NB387_390 := n9_; have NB390_387 := n10_; clear n0_ n1_ n2_ n3_ n4_ n5_ n6_ n7_ n8_ n9_ n10_; clear hb hbox hg; have hnb25 := NB390_389.out; have hnc25 := NB389_390.out; have hnb26 := NB390_387.out; have hnc26 := NB387_390.out; have hcz27_0 : w24.cell? ⟨gb390, 0, none⟩ = some (.int .i64 0) := (blk_cell BK390.out 0).trans rfl; have hcz27_1 : w24.cell? ⟨gb390, 1, none⟩ = some (.int .i64 0) := (blk_cell BK390.out 1).trans rfl; have hfz27_0 := blk_frozen BK390.out 0; have hfz27_1 := blk_frozen BK390.out 1) | ((with_reducible refine gate_store (t := 88) (p := 11) rfl ?_); refine store_event (t := 88) (p := 11) (v := ?vo_w28) (w1 := ((w24.setCell ⟨gb390, 0, none⟩ (.int .i64 ((rd_T59 l0 x33_1).f1))).setCell ⟨gb390, 1, none⟩ (.int .i64 ((rd_T59 l0 x33_1).f2)))) ?hg ?ho ?hn ?hr ?_; (case ho => rfl); (case hg => rfl); (case hn => rfl); (case hr => first | (go_simp; done) | (go_simp; rfl)); intro w28 hw; have n0_ : Aside0 (Kd.R (Kd.int .i64) 3 w28 w.heap.size (fun _ => True) v384 x7_1) := ⟨(by rw [hw]; exact (by (with_reducible repeat (first | apply Kd.R_alloc | apply Kd.R_drewN | apply Kd.R_drew)); exact Kd.R_mono (Kd.R_far (p := ⟨gb390, 1, none⟩) (Kd.R_far (p := ⟨gb390, 0, none⟩) (Kd.R_types HO_7.out BK390.out (by decide)) (fun _ hk => hk.2) (.int .i64 ((rd_T59 l0 x33_1).f1))) (fun _ hk => hk.2) (.int .i64 ((rd_T59 l0 x33_1).f2))) (fun _ hk => trivial)))⟩; have n1_ : Aside0 (w28.heap[gb389]? = some (.cells #[.int .i64 ((rd_T59 l0 x33_1).f0), .int .i64 ((rd_T59 l0 x33_1).f1), .int .i64 ((rd_T59 l0 x33_1).f2), .int .i64 ((rd_T59 l0 x33_1).f3), .int .i64 ((rd_T59 l0 x33_1).f4)] 59 (0, 0))) := ⟨(by rw [hw]; exact (by (with_reducible repeat (first | refine blk_drewN ?_ _ | refine blk_drew ?_ | refine blk_alloc ?_ _)); refine blk_far ?_ NB389_390.out _; (with_reducible repeat (first | refine blk_drewN ?_ _ | refine blk_drew ?_ | refine blk_alloc ?_ _)); refine blk_far ?_ NB389_390.out _; (with_reducible repeat (first | refine blk_drewN ?_ _ | refine blk_drew ?_ | refine blk_alloc ?_ _)); exact BK389.out))⟩; have n2_ : Aside0 (w28.heap[gb390]? = some (.cells #[.int .i64 ((rd_T59 l0 x33_1).f1), .int .i64 ((rd_T59 l0 x33_1).f2)] 88 (0, 0))) := ⟨(by rw [hw]; exact (by (with_reducible repeat (first | refine blk_drewN ?_ _ | refine blk_drew ?_ | refine blk_alloc ?_ _)); refine blk_put (cs := #[.int .i64 ((rd_T59 l0 x33_1).f1), .int .i64 0]) ?_ 1 _ rfl; (with_reducible repeat (first | refine blk_drewN ?_ _ | refine blk_drew ?_ | refine blk_alloc ?_ _)); refine blk_put (cs := #[.int .i64 0, .int .i64 0]) ?_ 0 _ rfl; (with_reducible repeat (first | refine blk_drewN ?_ _ | refine blk_drew ?_ | refine blk_alloc ?_ _)); exact BK390.out))⟩; have n3_ : Aside0 (IsS86 w w28 g387 x388000_1) := ⟨(by rw [hw]; exact (by repeat (first | (with_reducible first | exact HI387.out | apply IsS86.alloc | apply IsS86.drewN | apply IsS86.drew | apply IsS86.set_0 | refine IsS86.far ?_ NB387_389.out _ | refine IsS86.far ?_ NB387_390.out _) | exact HI387.out)))⟩; have n4_ : Aside0 (Below w.heap.size w w28) := ⟨(by rw [hw]; exact (by repeat (first | (with_reducible first | exact HB.out | apply below_alloc | apply pw_below_drewN | apply below_drew1 | refine below_set ?_ (IsS86.ge HI387.out) | refine below_set ?_ GE389.out | refine below_set ?_ GE390.out) | exact HB.out)))⟩; clear hw; clear HO_7; clear BK389; clear BK390; clear HI387; clear HB; have HO_7 := n0_; have BK389 := n1_; have BK390 := n2_; have HI387 := n3_; have HB := n4_; clear n0_ n1_ n2_ n3_ n4_; have hcz29_0 : w28.cell? ⟨gb390, 0, none⟩ = some (.int .i64 ((rd_T59 l0 x33_1).f1)) := (blk_cell BK390.out 0).trans rfl; have hcz29_1 : w28.cell? ⟨gb390, 1, none⟩ = some (.int .i64 ((rd_T59 l0 x33_1).f2)) := (blk_cell BK390.out 1).trans rfl; have hfz29_0 := blk_frozen BK390.out 0; have hfz29_1 := blk_frozen BK390.out 1) | ((with_reducible refine gate_lookup rfl ?_); refine ms86has.ev rfl rfl g387 x388000_1 ((rd_T59 l0 x33_1).f1) ((rd_T59 l0 x33_1).f2) true t392 w _ rfl rfl ?side1 ?side2 A17.out ?_; (case side1 => repeat (first | (with_reducible first | exact HI387.out | apply IsS86.alloc | apply IsS86.drewN | apply IsS86.drew | apply IsS86.set_0 | refine IsS86.far ?_ NB387_389.out _ | refine IsS86.far ?_ NB387_390.out _) | exact HI387.out)); (case side2 => repeat (first | (with_reducible first | exact HB.out | apply below_alloc | apply pw_below_drewN | apply below_drew1 | refine below_set ?_ (IsS86.ge HI387.out) | refine below_set ?_ GE389.out | refine below_set ?_ GE390.out) | exact HB.out)); intro w30 hi hb hk; have n0_ := Aside0.mk (Kd.R_mono (Kd.R_keep (IsS86.apart (show IsS86 w _ g387 x388000_1 from by repeat (first | (with_reducible first | exact HI387.out | apply IsS86.alloc | apply IsS86.drewN | apply IsS86.drew | apply IsS86.set_0 | refine IsS86.far ?_ NB387_389.out _ | refine IsS86.far ?_ NB387_390.out _) | exact HI387.out)) (by (with_reducible repeat (first | apply Kd.R_alloc | apply Kd.R_drewN | apply Kd.R_drew)); exact HO_7.out) (by decide)) hk (fun _ h => h.2)) (fun _ h => h.1)); have n1_ := Aside0.mk (KeepBut.blk hk (g' := gb389) (o := .cells #[.int .i64 ((rd_T59 l0 x33_1).f0), .int .i64 ((rd_T59 l0 x33_1).f1), .int .i64 ((rd_T59 l0 x33_1).f2), .int .i64 ((rd_T59 l0 x33_1).f3), .int .i64 ((rd_T59 l0 x33_1).f4)] 59 (0, 0)) (by (with_reducible repeat (first | refine blk_drewN ?_ _ | refine blk_drew ?_ | refine blk_alloc ?_ _)); exact BK389.out) NB389_387.out (by simp)); have n2_ := Aside0.mk (KeepBut.blk hk (g' := gb390) (o := .cells #[.int .i64 ((rd_T59 l0 x33_1).f1), .int .i64 ((rd_T59 l0 x33_1).f2)] 88 (0, 0)) (by (with_reducible repeat (first | refine blk_drewN ?_ _ | refine blk_drew ?_ | refine blk_alloc ?_ _)); exact BK390.out) NB390_387.out (by simp)); have n3_ := Aside0.mk (hb); have n4_ := Aside0.mk (hi); clear HO_7; clear BK389; clear BK390; clear HB; clear HI387; have HO_7 := n0_; have BK389 := n1_; have BK390 := n2_; have HB := n3_; have HI387 := n4_; clear n0_ n1_ n2_ n3_ n4_; (try clear hb); (try clear hb2); (try clear hk); (try clear hi)))
           go_roundg k1
           case measure => have := HK1.out; omega
           case rel => exact ⟨(x7_1), (wrap64 (x33_1 + 1)), (t392), (by first | rfl | (simp; done) | (simp [*]; done)), H', ⟨by have := HK1.out; omega⟩, ⟨by (with_reducible repeat (first | apply Kd.R_alloc | apply Kd.R_drewN | apply Kd.R_drew)); exact HO_7.out⟩, ⟨by repeat (first | (with_reducible first | exact HI387.out | apply IsS86.alloc | apply IsS86.drewN | apply IsS86.drew | apply IsS86.set_0 | refine IsS86.far ?_ NB387_389.out _ | refine IsS86.far ?_ NB387_390.out _) | exact HI387.out)⟩, ⟨by repeat (first | (with_reducible first | exact HB.out | apply below_alloc | apply pw_below_drewN | apply below_drew1 | refine below_set ?_ (IsS86.ge HI387.out) | refine below_set ?_ GE389.out | refine below_set ?_ GE390.out) | exact HB.out)⟩⟩
          ·replace c18 := Bool.eq_false_iff.mpr c18
           subst c18
           have H1 : ((ms86put.f t392 ((rd_T59 l0 x33_1).f1) ((rd_T59 l0 x33_1).f2)).bind fun t393 => (cap_Ceiling.l1 k1 l0 a1 x7_1 ([] : List (S59)) ([] : List Int) l0 (l0.length : Int) x33_1 l0 (l0.length : Int) 0 t393 ((rd_T59 l0 x33_1).f0) ((rd_T59 l0 x33_1).f1) ((rd_T59 l0 x33_1).f2) ((rd_T59 l0 x33_1).f3) ((rd_T59 l0 x33_1).f4))) = some (r1, r2) := by rw [if_neg (show ¬ (false = true) by decide)] at H; exact H
           clear H
           have H := H1
           clear H1
           replace H := Option.bind_eq_some_iff.mp H
           obtain ⟨t393, A310, H⟩ := H
           replace H : (cap_Ceiling.l1 k1 l0 a1 x7_1 ([] : List (S59)) ([] : List Int) l0 (l0.length : Int) x33_1 l0 (l0.length : Int) 0 t393 ((rd_T59 l0 x33_1).f0) ((rd_T59 l0 x33_1).f1) ((rd_T59 l0 x33_1).f2) ((rd_T59 l0 x33_1).f3) ((rd_T59 l0 x33_1).f4)) = some (r1, r2) := H
           have A31 := Aside0.mk A310
           clear A310
           have H' := Aside0.mk H
           clear H
           have p388 : 0 ≤ (x33_1 : Int) := of_decide_eq_true (by first | (with_reducible assumption) | assumption)
           have q388 : x33_1 < (l0.length : Int) := of_decide_eq_true (by first | (with_reducible assumption) | assumption)
           obtain ⟨ad388, e388, hx388_0, hx388_1, hx388_2, hx388_3, hx388_4⟩ := at_T59 HR0.out x33_1 p388 q388
           cases e388
           replace hx388_0 := (HB.out.cell (World.block_lt_of_cell? w _ hx388_0)).trans hx388_0
           replace hx388_1 := (HB.out.cell (World.block_lt_of_cell? w _ hx388_1)).trans hx388_1
           replace hx388_2 := (HB.out.cell (World.block_lt_of_cell? w _ hx388_2)).trans hx388_2
           replace hx388_3 := (HB.out.cell (World.block_lt_of_cell? w _ hx388_3)).trans hx388_3
           replace hx388_4 := (HB.out.cell (World.block_lt_of_cell? w _ hx388_4)).trans hx388_4
           replace p388 := eq_true p388
           replace q388 := eq_true q388
           go_wp2_with (first | ((with_reducible refine gate_dst (N := 10) rfl ?_); refine box_event ?hg (N := 10) ?hd (cs := #[.int .i64 0, .int .i64 0, .int .i64 0, .int .i64 0, .int .i64 0]) (t := 59) ?hr ?_; (case hd => rfl); (case hg => rfl); (case hr => first | (go_simp; done) | (go_simp; rfl)); intro gb389 hg w32 hbox hb; have n0_ := Aside0.mk (Kd.R_below (by (with_reducible repeat (first | apply Kd.R_alloc | apply Kd.R_drewN | apply Kd.R_drew)); exact HO_7.out) hb); have n1_ := Aside0.mk (IsS86.below (by repeat (first | (with_reducible first | exact HI387.out | apply IsS86.alloc | apply IsS86.drewN | apply IsS86.drew | apply IsS86.set_0) | exact HI387.out)) hb); have n2_ := Aside0.mk (below_step (by repeat (first | (with_reducible first | exact HB.out | apply below_alloc | apply pw_below_drewN | apply below_drew1 | refine below_set ?_ (IsS86.ge HI387.out)) | exact HB.out)) hb); have n3_ := Aside0.mk (hbox); have n4_ := Aside0.mk ((by rw [hg]; exact (below_size (by repeat (first | (with_reducible first | exact HB.out | apply below_alloc | apply pw_below_drewN | apply below_drew1 | refine below_set ?_ (IsS86.ge HI387.out)) | exact HB.out))) : w.heap.size ≤ gb389)); have n5_ := Aside0.mk ((by rw [hg]; exact (below_size (by repeat (first | (with_reducible first | exact HB.out | apply below_alloc | apply pw_below_drewN | apply below_drew1 | refine below_set ?_ (IsS86.ge HI387.out)) | exact HB.out))) : w.heap.size ≤ gb389)); have n6_ := Aside0.mk ((by rw [hg]; exact Nat.ne_of_lt (IsS86.lt (show IsS86 w _ g387 x388000_1 from by repeat (first | (with_reducible first | exact HI387.out | apply IsS86.alloc | apply IsS86.drewN | apply IsS86.drew | apply IsS86.set_0) | exact HI387.out))) : g387 ≠ gb389)); have n7_ := Aside0.mk ((by rw [hg]; exact Nat.ne_of_gt (IsS86.lt (show IsS86 w _ g387 x388000_1 from by repeat (first | (with_reducible first | exact HI387.out | apply IsS86.alloc | apply IsS86.drewN | apply IsS86.drew | apply IsS86.set_0) | exact HI387.out))) : gb389 ≠ g387)); clear HO_7; clear HI387; clear HB; have HO_7 := n0_; have HI387 := n1_; have HB := n2_; have BK389 := n3_; have GW389 := n4_; have GE389 := n5_; have NB387_389 := n6_; have NB389_387 := n7_; clear n0_ n1_ n2_ n3_ n4_ n5_ n6_ n7_; clear hb hbox hg; have hnb33 := NB389_387.out; have hnc33 := NB387_389.out; have hcz34_0 : w32.cell? ⟨gb389, 0, none⟩ = some (.int .i64 0) := (blk_cell BK389.out 0).trans rfl; have hcz34_1 : w32.cell? ⟨gb389, 1, none⟩ = some (.int .i64 0) := (blk_cell BK389.out 1).trans rfl; have hcz34_2 : w32.cell? ⟨gb389, 2, none⟩ = some (.int .i64 0) := (blk_cell BK389.out 2).trans rfl; have hcz34_3 : w32.cell? ⟨gb389, 3, none⟩ = some (.int .i64 0) := (blk_cell BK389.out 3).trans rfl; have hcz34_4 : w32.cell? ⟨gb389, 4, none⟩ = some (.int .i64 0) := (blk_cell BK389.out 4).trans rfl; have hfz34_0 := blk_frozen BK389.out 0; have hfz34_1 := blk_frozen BK389.out 1; have hfz34_2 := blk_frozen BK389.out 2; have hfz34_3 := blk_frozen BK389.out 3; have hfz34_4 := blk_frozen BK389.out 4) | ((with_reducible refine gate_store (t := 59) (p := 10) rfl ?_); refine store_event (t := 59) (p := 10) (v := ?vo_w35) (w1 := (((((w32.setCell ⟨gb389, 0, none⟩ (.int .i64 ((rd_T59 l0 x33_1).f0))).setCell ⟨gb389, 1, none⟩ (.int .i64 ((rd_T59 l0 x33_1).f1))).setCell ⟨gb389, 2, none⟩ (.int .i64 ((rd_T59 l0 x33_1).f2))).setCell ⟨gb389, 3, none⟩ (.int .i64 ((rd_T59 l0 x33_1).f3))).setCell ⟨gb389, 4, none⟩ (.int .i64 ((rd_T59 l0 x33_1).f4)))) ?hg ?ho ?hn ?hr ?_; (case ho => rfl); (case hg => rfl); (case hn => rfl); (case hr => first | (go_simp; done) | (go_simp; rfl)); intro w35 hw; have n0_ : Aside0 (Kd.R (Kd.int .i64) 3 w35 w.heap.size (fun _ => True) v384 x7_1) := ⟨(by rw [hw]; exact (by (with_reducible repeat (first | apply Kd.R_alloc | apply Kd.R_drewN | apply Kd.R_drew)); exact Kd.R_mono (Kd.R_far (p := ⟨gb389, 4, none⟩) (Kd.R_far (p := ⟨gb389, 3, none⟩) (Kd.R_far (p := ⟨gb389, 2, none⟩) (Kd.R_far (p := ⟨gb389, 1, none⟩) (Kd.R_far (p := ⟨gb389, 0, none⟩) (Kd.R_types HO_7.out BK389.out (by decide)) (fun _ hk => hk.2) (.int .i64 ((rd_T59 l0 x33_1).f0))) (fun _ hk => hk.2) (.int .i64 ((rd_T59 l0 x33_1).f1))) (fun _ hk => hk.2) (.int .i64 ((rd_T59 l0 x33_1).f2))) (fun _ hk => hk.2) (.int .i64 ((rd_T59 l0 x33_1).f3))) (fun _ hk => hk.2) (.int .i64 ((rd_T59 l0 x33_1).f4))) (fun _ hk => trivial)))⟩; have n1_ : Aside0 (w35.heap[gb389]? = some (.cells #[.int .i64 ((rd_T59 l0 x33_1).f0), .int .i64 ((rd_T59 l0 x33_1).f1), .int .i64 ((rd_T59 l0 x33_1).f2), .int .i64 ((rd_T59 l0 x33_1).f3), .int .i64 ((rd_T59 l0 x33_1).f4)] 59 (0, 0))) := ⟨(by rw [hw]; exact (by (with_reducible repeat (first | refine blk_drewN ?_ _ | refine blk_drew ?_ | refine blk_alloc ?_ _)); refine blk_put (cs := #[.int .i64 ((rd_T59 l0 x33_1).f0), .int .i64 ((rd_T59 l0 x33_1).f1), .int .i64 ((rd_T59 l0 x33_1).f2), .int .i64 ((rd_T59 l0 x33_1).f3), .int .i64 0]) ?_ 4 _ rfl; (with_reducible repeat (first | refine blk_drewN ?_ _ | refine blk_drew ?_ | refine blk_alloc ?_ _)); refine blk_put (cs := #[.int .i64 ((rd_T59 l0 x33_1).f0), .int .i64 ((rd_T59 l0 x33_1).f1), .int .i64 ((rd_T59 l0 x33_1).f2), .int .i64 0, .int .i64 0]) ?_ 3 _ rfl; (with_reducible repeat (first | refine blk_drewN ?_ _ | refine blk_drew ?_ | refine blk_alloc ?_ _)); refine blk_put (cs := #[.int .i64 ((rd_T59 l0 x33_1).f0), .int .i64 ((rd_T59 l0 x33_1).f1), .int .i64 0, .int .i64 0, .int .i64 0]) ?_ 2 _ rfl; (with_reducible repeat (first | refine blk_drewN ?_ _ | refine blk_drew ?_ | refine blk_alloc ?_ _)); refine blk_put (cs := #[.int .i64 ((rd_T59 l0 x33_1).f0), .int .i64 0, .int .i64 0, .int .i64 0, .int .i64 0]) ?_ 1 _ rfl; (with_reducible repeat (first | refine blk_drewN ?_ _ | refine blk_drew ?_ | refine blk_alloc ?_ _)); refine blk_put (cs := #[.int .i64 0, .int .i64 0, .int .i64 0, .int .i64 0, .int .i64 0]) ?_ 0 _ rfl; (with_reducible repeat (first | refine blk_drewN ?_ _ | refine blk_drew ?_ | refine blk_alloc ?_ _)); exact BK389.out))⟩; have n2_ : Aside0 (IsS86 w w35 g387 x388000_1) := ⟨(by rw [hw]; exact (by repeat (first | (with_reducible first | exact HI387.out | apply IsS86.alloc | apply IsS86.drewN | apply IsS86.drew | apply IsS86.set_0 | refine IsS86.far ?_ NB387_389.out _) | exact HI387.out)))⟩; have n3_ : Aside0 (Below w.heap.size w w35) := ⟨(by rw [hw]; exact (by repeat (first | (with_reducible first | exact HB.out | apply below_alloc | apply pw_below_drewN | apply below_drew1 | refine below_set ?_ (IsS86.ge HI387.out) | refine below_set ?_ GE389.out) | exact HB.out)))⟩; clear hw; clear HO_7; clear BK389; clear HI387; clear HB; have HO_7 := n0_; have BK389 := n1_; have HI387 := n2_; have HB := n3_; clear n0_ n1_ n2_ n3_; have hcz36_0 : w35.cell? ⟨gb389, 0, none⟩ = some (.int .i64 ((rd_T59 l0 x33_1).f0)) := (blk_cell BK389.out 0).trans rfl; have hcz36_1 : w35.cell? ⟨gb389, 1, none⟩ = some (.int .i64 ((rd_T59 l0 x33_1).f1)) := (blk_cell BK389.out 1).trans rfl; have hcz36_2 : w35.cell? ⟨gb389, 2, none⟩ = some (.int .i64 ((rd_T59 l0 x33_1).f2)) := (blk_cell BK389.out 2).trans rfl; have hcz36_3 : w35.cell? ⟨gb389, 3, none⟩ = some (.int .i64 ((rd_T59 l0 x33_1).f3)) := (blk_cell BK389.out 3).trans rfl; have hcz36_4 : w35.cell? ⟨gb389, 4, none⟩ = some (.int .i64 ((rd_T59 l0 x33_1).f4)) := (blk_cell BK389.out 4).trans rfl; have hfz36_0 := blk_frozen BK389.out 0; have hfz36_1 := blk_frozen BK389.out 1; have hfz36_2 := blk_frozen BK389.out 2; have hfz36_3 := blk_frozen BK389.out 3; have hfz36_4 := blk_frozen BK389.out 4) | ((with_reducible refine gate_dst (N := 11) rfl ?_); refine box_event ?hg (N := 11) ?hd (cs := #[.int .i64 0, .int .i64 0]) (t := 88) ?hr ?_; (case hd => rfl); (case hg => rfl); (case hr => first | (go_simp; done) | (go_simp; rfl)); intro gb390 hg w37 hbox hb; have n0_ := Aside0.mk (Kd.R_below (by (with_reducible repeat (first | apply Kd.R_alloc | apply Kd.R_drewN | apply Kd.R_drew)); exact HO_7.out) hb); have n1_ := Aside0.mk (IsS86.below (by repeat (first | (with_reducible first | exact HI387.out | apply IsS86.alloc | apply IsS86.drewN | apply IsS86.drew | apply IsS86.set_0 | refine IsS86.far ?_ NB387_389.out _) | exact HI387.out)) hb); have n2_ := Aside0.mk (blk_below (g := gb389) (o := .cells #[.int .i64 ((rd_T59 l0 x33_1).f0), .int .i64 ((rd_T59 l0 x33_1).f1), .int .i64 ((rd_T59 l0 x33_1).f2), .int .i64 ((rd_T59 l0 x33_1).f3), .int .i64 ((rd_T59 l0 x33_1).f4)] 59 (0, 0)) (by (with_reducible repeat (first | refine blk_drewN ?_ _ | refine blk_drew ?_ | refine blk_alloc ?_ _)); exact BK389.out) hb); have n3_ := Aside0.mk (below_step (by repeat (first | (with_reducible first | exact HB.out | apply below_alloc | apply pw_below_drewN | apply below_drew1 | refine below_set ?_ (IsS86.ge HI387.out) | refine below_set ?_ GE389.out) | exact HB.out)) hb); have n4_ := Aside0.mk (hbox); have n5_ := Aside0.mk ((by rw [hg]; exact (below_size (by repeat (first | (with_reducible first | exact HB.out | apply below_alloc | apply pw_below_drewN | apply below_drew1 | refine below_set ?_ (IsS86.ge HI387.out) | refine below_set ?_ GE389.out) | exact HB.out))) : w.heap.size ≤ gb390)); have n6_ := Aside0.mk ((by rw [hg]; exact (below_size (by repeat (first | (with_reducible first | exact HB.out | apply below_alloc | apply pw_below_drewN | apply below_drew1 | refine below_set ?_ (IsS86.ge HI387.out) | refine below_set ?_ GE389.out) | exact HB.out))) : w.heap.size ≤ gb390)); have n7_ := Aside0.mk ((by rw [hg]; exact Nat.ne_of_lt (blk_lt (g := gb389) (o := .cells #[.int .i64 ((rd_T59 l0 x33_1).f0), .int .i64 ((rd_T59 l0 x33_1).f1), .int .i64 ((rd_T59 l0 x33_1).f2), .int .i64 ((rd_T59 l0 x33_1).f3), .int .i64 ((rd_T59 l0 x33_1).f4)] 59 (0, 0)) (by (with_reducible repeat (first | refine blk_drewN ?_ _ | refine blk_drew ?_ | refine blk_alloc ?_ _)); exact BK389.out)) : gb389 ≠ gb390)); have n8_ := Aside0.mk ((by rw [hg]; exact Nat.ne_of_gt (blk_lt (g := gb389) (o := .cells #[.int .i64 ((rd_T59 l0 x33_1).f0), .int .i64 ((rd_T59 l0 x33_1).f1), .int .i64 ((rd_T59 l0 x33_1).f2), .int .i64 ((rd_T59 l0 x33_1).f3), .int .i64 ((rd_T59 l0 x33_1).f4)] 59 (0, 0)) (by (with_reducible repeat (first | refine blk_drewN ?_ _ | refine blk_drew ?_ | refine blk_alloc ?_ _)); exact BK389.out)) : gb390 ≠ gb389)); have n9_ := Aside0.mk ((by rw [hg]; exact Nat.ne_of_lt (IsS86.lt (show IsS86 w _ g387 x388000_1 from by repeat (first | (with_reducible first | exact HI387.out | apply IsS86.alloc | apply IsS86.drewN | apply IsS86.drew | apply IsS86.set_0 | refine IsS86.far ?_ NB387_389.out _) | exact HI387.out))) : g387 ≠ gb390)); have n10_ := Aside0.mk ((by rw [hg]; exact Nat.ne_of_gt (IsS86.lt (show IsS86 w _ g387 x388000_1 from by repeat (first | (with_reducible first | exact HI387.out | apply IsS86.alloc | apply IsS86.drewN | apply IsS86.drew | apply IsS86.set_0 | refine IsS86.far ?_ NB387_389.out _) | exact HI387.out))) : gb390 ≠ g387)); clear HO_7; clear HI387; clear BK389; clear HB; have HO_7 := n0_; have HI387 := n1_; have BK389 := n2_; have HB := n3_; have BK390 := n4_; have GW390 := n5_; have GE390 := n6_; have NB389_390 := n7_; have NB390_389 := n8_; have NB387_390 := n9_; have NB390_387 := n10_; clear n0_ n1_ n2_ n3_ n4_ n5_ n6_ n7_ n8_ n9_ n10_; clear hb hbox hg; have hnb38 := NB390_389.out; have hnc38 := NB389_390.out; have hnb39 := NB390_387.out; have hnc39 := NB387_390.out; have hcz40_0 : w37.cell? ⟨gb390, 0, none⟩ = some (.int .i64 0) := (blk_cell BK390.out 0).trans rfl; have hcz40_1 : w37.cell? ⟨gb390, 1, none⟩ = some (.int .i64 0) := (blk_cell BK390.out 1).trans rfl; have hfz40_0 := blk_frozen BK390.out 0; have hfz40_1 := blk_frozen BK390.out 1) | ((with_reducible refine gate_store (t := 88) (p := 11) rfl ?_); refine store_event (t := 88) (p := 11) (v := ?vo_w41) (w1 := ((w37.setCell ⟨gb390, 0, none⟩ (.int .i64 ((rd_T59 l0 x33_1).f1))).setCell ⟨gb390, 1, none⟩ (.int .i64 ((rd_T59 l0 x33_1).f2)))) ?hg ?ho ?hn ?hr ?_; (case ho => rfl); (case hg => rfl); (case hn => rfl); (case hr => first | (go_simp; done) | (go_simp; rfl)); intro w41 hw; have n0_ : Aside0 (Kd.R (Kd.int .i64) 3 w41 w.heap.size (fun _ => True) v384 x7_1) := ⟨(by rw [hw]; exact (by (with_reducible repeat (first | apply Kd.R_alloc | apply Kd.R_drewN | apply Kd.R_drew)); exact Kd.R_mono (Kd.R_far (p := ⟨gb390, 1, none⟩) (Kd.R_far (p := ⟨gb390, 0, none⟩) (Kd.R_types HO_7.out BK390.out (by decide)) (fun _ hk => hk.2) (.int .i64 ((rd_T59 l0 x33_1).f1))) (fun _ hk => hk.2) (.int .i64 ((rd_T59 l0 x33_1).f2))) (fun _ hk => trivial)))⟩; have n1_ : Aside0 (w41.heap[gb389]? = some (.cells #[.int .i64 ((rd_T59 l0 x33_1).f0), .int .i64 ((rd_T59 l0 x33_1).f1), .int .i64 ((rd_T59 l0 x33_1).f2), .int .i64 ((rd_T59 l0 x33_1).f3), .int .i64 ((rd_T59 l0 x33_1).f4)] 59 (0, 0))) := ⟨(by rw [hw]; exact (by (with_reducible repeat (first | refine blk_drewN ?_ _ | refine blk_drew ?_ | refine blk_alloc ?_ _)); refine blk_far ?_ NB389_390.out _; (with_reducible repeat (first | refine blk_drewN ?_ _ | refine blk_drew ?_ | refine blk_alloc ?_ _)); refine blk_far ?_ NB389_390.out _; (with_reducible repeat (first | refine blk_drewN ?_ _ | refine blk_drew ?_ | refine blk_alloc ?_ _)); exact BK389.out))⟩; have n2_ : Aside0 (w41.heap[gb390]? = some (.cells #[.int .i64 ((rd_T59 l0 x33_1).f1), .int .i64 ((rd_T59 l0 x33_1).f2)] 88 (0, 0))) := ⟨(by rw [hw]; exact (by (with_reducible repeat (first | refine blk_drewN ?_ _ | refine blk_drew ?_ | refine blk_alloc ?_ _)); refine blk_put (cs := #[.int .i64 ((rd_T59 l0 x33_1).f1), .int .i64 0]) ?_ 1 _ rfl; (with_reducible repeat (first | refine blk_drewN ?_ _ | refine blk_drew ?_ | refine blk_alloc ?_ _)); refine blk_put (cs := #[.int .i64 0, .int .i64 0]) ?_ 0 _ rfl; (with_reducible repeat (first | refine blk_drewN ?_ _ | refine blk_drew ?_ | refine blk_alloc ?_ _)); exact BK390.out))⟩; have n3_ : Aside0 (IsS86 w w41 g387 x388000_1) := ⟨(by rw [hw]; exact (by repeat (first | (with_reducible first | exact HI387.out | apply IsS86.alloc | apply IsS86.drewN | apply IsS86.drew | apply IsS86.set_0 | refine IsS86.far ?_ NB387_389.out _ | refine IsS86.far ?_ NB387_390.out _) | exact HI387.out)))⟩; have n4_ : Aside0 (Below w.heap.size w w41) := ⟨(by rw [hw]; exact (by repeat (first | (with_reducible first | exact HB.out | apply below_alloc | apply pw_below_drewN | apply below_drew1 | refine below_set ?_ (IsS86.ge HI387.out) | refine below_set ?_ GE389.out | refine below_set ?_ GE390.out) | exact HB.out)))⟩; clear hw; clear HO_7; clear BK389; clear BK390; clear HI387; clear HB; have HO_7 := n0_; have BK389 := n1_; have BK390 := n2_; have HI387 := n3_; have HB := n4_; clear n0_ n1_ n2_ n3_ n4_; have hcz42_0 : w41.cell? ⟨gb390, 0, none⟩ = some (.int .i64 ((rd_T59 l0 x33_1).f1)) := (blk_cell BK390.out 0).trans rfl; have hcz42_1 : w41.cell? ⟨gb390, 1, none⟩ = some (.int .i64 ((rd_T59 l0 x33_1).f2)) := (blk_cell BK390.out 1).trans rfl; have hfz42_0 := blk_frozen BK390.out 0; have hfz42_1 := blk_frozen BK390.out 1) | ((with_reducible refine gate_lookup rfl ?_); refine ms86has.ev rfl rfl g387 x388000_1 ((rd_T59 l0 x33_1).f1) ((rd_T59 l0 x33_1).f2) false t392 w _ rfl rfl ?side1 ?side2 A17.out ?_; (case side1 => repeat (first | (with_reducible first | exact HI387.out | apply IsS86.alloc | apply IsS86.drewN | apply IsS86.drew | apply IsS86.set_0 | refine IsS86.far ?_ NB387_389.out _ | refine IsS86.far ?_ NB387_390.out _) | exact HI387.out)); (case side2 => repeat (first | (with_reducible first | exact HB.out | apply below_alloc | apply pw_below_drewN | apply below_drew1 | refine below_set ?_ (IsS86.ge HI387.out) | refine below_set ?_ GE389.out | refine below_set ?_ GE390.out) | exact HB.out)); intro w43 hi hb hk; have n0_ := Aside0.mk (Kd.R_mono (Kd.R_keep (IsS86.apart (show IsS86 w _ g387 x388000_1 from by repeat (first | (with_reducible first | exact HI387.out | apply IsS86.alloc | apply IsS86.drewN | apply IsS86.drew | apply IsS86.set_0 | refine IsS86.far ?_ NB387_389.out _ | refine IsS86.far ?_ NB387_390.out _) | exact HI387.out)) (by (with_reducible repeat (first | apply Kd.R_alloc | apply Kd.R_drewN | apply Kd.R_drew)); exact HO_7.out) (by decide)) hk (fun _ h => h.2)) (fun _ h => h.1)); have n1_ := Aside0.mk (KeepBut.blk hk (g' := gb389) (o := .cells #[.int .i64 ((rd_T59 l0 x33_1).f0), .int .i64 ((rd_T59 l0 x33_1).f1), .int .i64 ((rd_T59 l0 x33_1).f2), .int .i64 ((rd_T59 l0 x33_1).f3), .int .i64 ((rd_T59 l0 x33_1).f4)] 59 (0, 0)) (by (with_reducible repeat (first | refine blk_drewN ?_ _ | refine blk_drew ?_ | refine blk_alloc ?_ _)); exact BK389.out) NB389_387.out (by simp)); have n2_ := Aside0.mk (KeepBut.blk hk (g' := gb390) (o := .cells #[.int .i64 ((rd_T59 l0 x33_1).f1), .int .i64 ((rd_T59 l0 x33_1).f2)] 88 (0, 0)) (by (with_reducible repeat (first | refine blk_drewN ?_ _ | refine blk_drew ?_ | refine blk_alloc ?_ _)); exact BK390.out) NB390_387.out (by simp)); have n3_ := Aside0.mk (hb); have n4_ := Aside0.mk (hi); clear HO_7; clear BK389; clear BK390; clear HB; clear HI387; have HO_7 := n0_; have BK389 := n1_; have BK390 := n2_; have HB := n3_; have HI387 := n4_; clear n0_ n1_ n2_ n3_ n4_; (try clear hb); (try clear hb2); (try clear hk); (try clear hi); have hcz44_0 : w43.cell? ⟨gb390, 0, none⟩ = some (.int .i64 ((rd_T59 l0 x33_1).f1)) := (blk_cell BK390.out 0).trans rfl; have hcz44_1 : w43.cell? ⟨gb390, 1, none⟩ = some (.int .i64 ((rd_T59 l0 x33_1).f2)) := (blk_cell BK390.out 1).trans rfl; have hfz44_0 := blk_frozen BK390.out 0; have hfz44_1 := blk_frozen BK390.out 1) | ((with_reducible refine gate_mapput rfl ?_); refine ms86put.ev rfl rfl rfl g387 t392 ((rd_T59 l0 x33_1).f1) ((rd_T59 l0 x33_1).f2) t393 w _ rfl rfl rfl ?side1 ?side2 A31.out ?_; (case side1 => repeat (first | (with_reducible first | exact HI387.out | apply IsS86.alloc | apply IsS86.drewN | apply IsS86.drew | apply IsS86.set_0 | refine IsS86.far ?_ NB387_389.out _ | refine IsS86.far ?_ NB387_390.out _) | exact HI387.out)); (case side2 => repeat (first | (with_reducible first | exact HB.out | apply below_alloc | apply pw_below_drewN | apply below_drew1 | refine below_set ?_ (IsS86.ge HI387.out) | refine below_set ?_ GE389.out | refine below_set ?_ GE390.out) | exact HB.out)); intro w45 hi hb hk; have n0_ := Aside0.mk (Kd.R_mono (Kd.R_keep (IsS86.apart (show IsS86 w _ g387 t392 from by repeat (first | (with_reducible first | exact HI387.out | apply IsS86.alloc | apply IsS86.drewN | apply IsS86.drew | apply IsS86.set_0 | refine IsS86.far ?_ NB387_389.out _ | refine IsS86.far ?_ NB387_390.out _) | exact HI387.out)) (by (with_reducible repeat (first | apply Kd.R_alloc | apply Kd.R_drewN | apply Kd.R_drew)); exact HO_7.out) (by decide)) hk (fun _ h => h.2)) (fun _ h => h.1)); have n1_ := Aside0.mk (KeepBut.blk hk (g' := gb389) (o := .cells #[.int .i64 ((rd_T59 l0 x33_1).f0), .int .i64 ((rd_T59 l0 x33_1).f1), .int .i64 ((rd_T59 l0 x33_1).f2), .int .i64 ((rd_T59 l0 x33_1).f3), .int .i64 ((rd_T59 l0 x33_1).f4)] 59 (0, 0)) (by (with_reducible repeat (first | refine blk_drewN ?_ _ | refine blk_drew ?_ | refine blk_alloc ?_ _)); exact BK389.out) NB389_387.out (by simp)); have n2_ := Aside0.mk (KeepBut.blk hk (g' := gb390) (o := .cells #[.int .i64 ((rd_T59 l0 x33_1).f1), .int .i64 ((rd_T59 l0 x33_1).f2)] 88 (0, 0)) (by (with_reducible repeat (first | refine blk_drewN ?_ _ | refine blk_drew ?_ | refine blk_alloc ?_ _)); exact BK390.out) NB390_387.out (by simp)); have n3_ := Aside0.mk (hb); have n4_ := Aside0.mk (hi); clear HO_7; clear BK389; clear BK390; clear HB; clear HI387; have HO_7 := n0_; have BK389 := n1_; have BK390 := n2_; have HB := n3_; have HI387 := n4_; clear n0_ n1_ n2_ n3_ n4_; (try clear hb); (try clear hb2); (try clear hk); (try clear hi)))
           go_loopg [12, 13, 49] k1 (fun kq v12 v13 v49 w' => ∃ (x12_2 : List (S59)) (x13_2 : List Int) (x49_2 : Int), v49 = .int .i64 x49_2 ∧ Aside0 (cap_Ceiling.l1 kq l0 a1 x7_1 x12_2 x13_2 l0 (l0.length : Int) x33_1 l0 (l0.length : Int) x49_2 t393 ((rd_T59 l0 x33_1).f0) ((rd_T59 l0 x33_1).f1) ((rd_T59 l0 x33_1).f2) ((rd_T59 l0 x33_1).f3) ((rd_T59 l0 x33_1).f4) = some (r1, r2)) ∧ Aside0 (kq ≤ k1) ∧ Aside0 (Kd.R (Kd.int .i64) 3 w' w.heap.size (fun k_ => some k_ ≠ (v13 : Value).ownBlock) v384 x7_1) ∧ Aside0 (Kd.R k59 59 w' w.heap.size (fun k_ => k_ ≠ gb389) v12 x12_2) ∧ Aside0 (Kd.R (Kd.int .i64) 3 w' w.heap.size (fun k_ => some k_ ≠ (v384 : Value).ownBlock) v13 x13_2) ∧ Aside0 (w'.heap[gb389]? = some (.cells #[.int .i64 ((rd_T59 l0 x33_1).f0), .int .i64 ((rd_T59 l0 x33_1).f1), .int .i64 ((rd_T59 l0 x33_1).f2), .int .i64 ((rd_T59 l0 x33_1).f3), .int .i64 ((rd_T59 l0 x33_1).f4)] 59 (0, 0))) ∧ Aside0 (w'.heap[gb390]? = some (.cells #[.int .i64 ((rd_T59 l0 x33_1).f1), .int .i64 ((rd_T59 l0 x33_1).f2)] 88 (0, 0))) ∧ Aside0 (IsS86 w w' g387 t393) ∧ Aside0 (Below w.heap.size w w'))
           case atStart => exact ⟨(([] : List (S59))), (([] : List Int)), (0), (by first | rfl | (simp; done) | (simp [*]; done)), H', ⟨Nat.le_refl _⟩, ⟨by (with_reducible repeat (first | apply Kd.R_alloc | apply Kd.R_drewN | apply Kd.R_drew)); exact Kd.R_mono HO_7.out (fun _ hk => (by simp [Value.ownBlock]))⟩, ⟨by first | exact Kd.R_nil _ _ _ _ _ | exact Kd.N_nil _ _ _ _ _ | exact Kd.V_nil _ _ _ _ _ | exact Kd.Q_nil _ _ _ _ _ | exact Kd.S_nil _ _ _ _ _⟩, ⟨by first | exact Kd.R_nil _ _ _ _ _ | exact Kd.N_nil _ _ _ _ _ | exact Kd.V_nil _ _ _ _ _ | exact Kd.Q_nil _ _ _ _ _ | exact Kd.S_nil _ _ _ _ _⟩, ⟨by (with_reducible repeat (first | refine blk_drewN ?_ _ | refine blk_drew ?_ | refine blk_alloc ?_ _)); exact BK389.out⟩, ⟨by (with_reducible repeat (first | refine blk_drewN ?_ _ | refine blk_drew ?_ | refine blk_alloc ?_ _)); exact BK390.out⟩, ⟨by repeat (first | (with_reducible first | exact HI387.out | apply IsS86.alloc | apply IsS86.drewN | apply IsS86.drew | apply IsS86.set_0 | refine IsS86.far ?_ NB387_389.out _ | refine IsS86.far ?_ NB387_390.out _) | exact HI387.out)⟩, ⟨by repeat (first | (with_reducible first | exact HB.out | apply below_alloc | apply pw_below_drewN | apply below_drew1 | refine below_set ?_ (IsS86.ge HI387.out) | refine below_set ?_ GE389.out | refine below_set ?_ GE390.out) | exact HB.out)⟩⟩
           case round =>
            clear H'
            try clear c1
            try clear c2
            try clear p2
            try clear c3
            try clear p3
            try clear q3
            try clear hx3
            try clear c4
            try clear c4b0
            try clear c4b1
            try clear c5
            try clear c5b0
            try clear p6
            try clear c7
            try clear c7b0
            try clear c7b1
            try clear c8
            try clear c8b0
            try clear c8b1
            try clear c14
            try clear c14b0
            try clear c15
            try clear c15b0
            try clear c16
            try clear c16b0
            try clear c18
            try clear c20
            try clear c25
            try clear c26
            try clear c33
            try clear c35
            try clear c38
            try clear p38
            try clear q38
            try clear hx38
            try clear c39
            try clear hcz21_0
            try clear hcz21_1
            try clear hcz21_2
            try clear hcz21_3
            try clear hcz21_4
            try clear hcz23_0
            try clear hcz23_1
            try clear hcz23_2
            try clear hcz23_3
            try clear hcz23_4
            try clear hcz27_0
            try clear hcz27_1
            try clear hcz29_0
            try clear hcz29_1
            try clear hcz34_0
            try clear hcz34_1
            try clear hcz34_2
            try clear hcz34_3
            try clear hcz34_4
            try clear hcz36_0
            try clear hcz36_1
            try clear hcz36_2
            try clear hcz36_3
            try clear hcz36_4
            try clear hcz40_0
            try clear hcz40_1
            try clear hcz42_0
            try clear hcz42_1
            try clear hcz44_0
            try clear hcz44_1
            try clear hfz21_0
            try clear hfz21_1
            try clear hfz21_2
            try clear hfz21_3
            try clear hfz21_4
            try clear hfz23_0
            try clear hfz23_1
            try clear hfz23_2
            try clear hfz23_3
            try clear hfz23_4
            try clear hfz27_0
            try clear hfz27_1
            try clear hfz29_0
            try clear hfz29_1
            try clear hfz34_0
            try clear hfz34_1
            try clear hfz34_2
            try clear hfz34_3
            try clear hfz34_4
            try clear hfz36_0
            try clear hfz36_1
            try clear hfz36_2
            try clear hfz36_3
            try clear hfz36_4
            try clear hfz40_0
            try clear hfz40_1
            try clear hfz42_0
            try clear hfz42_1
            try clear hfz44_0
            try clear hfz44_1
            try clear hx388_0
            try clear hx388_1
            try clear hx388_2
            try clear hx388_3
            try clear hx388_4
            try clear p2
            try clear p388
            try clear q388
            obtain ⟨x12_2, x13_2, x49_2, rfl, HA, HK2, HO_7, HO_12, HO_13, BK389, BK390, HI387, HB⟩ := hrel
            cases gk with
            | zero => exact absurd HA.out (by simp [cap_Ceiling.l1])
            | succ k2 =>
             have H := HA.out
             clear HA
             simp only [cap_Ceiling.l1] at H
             by_cases c46 : x49_2 < (l0.length : Int)
             ·rw [if_pos c46] at H
              have c46b0 : decide (x49_2 < (l0.length : Int)) = true := decide_eq_true c46
              clear c46
              by_cases c47 : 0 ≤ x49_2
              ·rw [if_pos c47] at H
               have c47b0 : decide (0 ≤ x49_2) = true := decide_eq_true c47
               clear c47
               by_cases c48 : x49_2 < (l0.length : Int)
               ·rw [if_pos c48] at H
                have c48b0 : decide (x49_2 < (l0.length : Int)) = true := decide_eq_true c48
                clear c48
                by_cases c49 : ((rd_T59 l0 x49_2).f1) = ((rd_T59 l0 x33_1).f1)
                ·rw [if_pos c49] at H
                 have c49b0 : (((rd_T59 l0 x49_2).f1) == ((rd_T59 l0 x33_1).f1)) = true := beq_iff_eq.mpr c49
                 have c49b1 : (((rd_T59 l0 x49_2).f1) != ((rd_T59 l0 x33_1).f1)) = false := bne_eq_false_iff_eq.mpr c49
                 clear c49
                 by_cases c50 : ((rd_T59 l0 x49_2).f2) = ((rd_T59 l0 x33_1).f2)
                 ·rw [if_pos c50] at H
                  have c50b0 : (((rd_T59 l0 x49_2).f2) == ((rd_T59 l0 x33_1).f2)) = true := beq_iff_eq.mpr c50
                  have c50b1 : (((rd_T59 l0 x49_2).f2) != ((rd_T59 l0 x33_1).f2)) = false := bne_eq_false_iff_eq.mpr c50
                  clear c50
                  by_cases c51 : x12_2.length < 3518437208883
                  ·rw [if_pos c51] at H
                   have LMc51 := Aside0.mk c51
                   clear c51
                   obtain ⟨y396, hy396⟩ : ∃ y_ : List (S59), y_ = (x12_2 ++ [(⟨(rd_T59 l0 x49_2).f0, (rd_T59 l0 x49_2).f1, (rd_T59 l0 x49_2).f2, (rd_T59 l0 x49_2).f3, (rd_T59 l0 x49_2).f4⟩ : S59)]) := ⟨_, rfl⟩
                   replace H : (if x13_2.length < 17592186044416 then (cap_Ceiling.l1 k2 l0 a1 x7_1 y396 (x13_2 ++ [x49_2]) l0 (l0.length : Int) x33_1 l0 (l0.length : Int) (wrap64 (x49_2 + 1)) t393 ((rd_T59 l0 x33_1).f0) ((rd_T59 l0 x33_1).f1) ((rd_T59 l0 x33_1).f2) ((rd_T59 l0 x33_1).f3) ((rd_T59 l0 x33_1).f4)) else (none)) = some (r1, r2) := by first | (rw [hy396]; with_reducible exact H) | (have H2_ := (Option.bind_some _ _).symm.trans H; rw [hy396]; with_reducible exact H2_) | (have H2_ := (Option.bind_some _ _).symm.trans H; with_reducible exact H2_) | with_reducible exact H | (rw [hy396]; exact H) | exact H
                   have Ny396 := Aside0.mk hy396
                   clear hy396
                   by_cases c52 : x13_2.length < 17592186044416
                   ·rw [if_pos c52] at H
                    have LMc52 := Aside0.mk c52
                    clear c52
                    obtain ⟨y399, hy399⟩ : ∃ y_ : List Int, y_ = (x13_2 ++ [x49_2]) := ⟨_, rfl⟩
                    replace H : (cap_Ceiling.l1 k2 l0 a1 x7_1 y396 y399 l0 (l0.length : Int) x33_1 l0 (l0.length : Int) (wrap64 (x49_2 + 1)) t393 ((rd_T59 l0 x33_1).f0) ((rd_T59 l0 x33_1).f1) ((rd_T59 l0 x33_1).f2) ((rd_T59 l0 x33_1).f3) ((rd_T59 l0 x33_1).f4)) = some (r1, r2) := by first | (rw [hy399]; with_reducible exact H) | (have H2_ := (Option.bind_some _ _).symm.trans H; rw [hy399]; with_reducible exact H2_) | (have H2_ := (Option.bind_some _ _).symm.trans H; with_reducible exact H2_) | with_reducible exact H | (rw [hy399]; exact H) | exact H
                    have Ny399 := Aside0.mk hy399
                    clear hy399
                    have H' := Aside0.mk H
                    clear H
                    have p394 : 0 ≤ (x49_2 : Int) := of_decide_eq_true (by first | (with_reducible assumption) | assumption)
                    have q394 : x49_2 < (l0.length : Int) := of_decide_eq_true (by first | (with_reducible assumption) | assumption)
                    obtain ⟨ad394, e394, hx394_0, hx394_1, hx394_2, hx394_3, hx394_4⟩ := at_T59 HR0.out x49_2 p394 q394
                    obtain rfl : ad388 = ad394 := (by injection e394)
                    replace hx394_0 := (HB.out.cell (World.block_lt_of_cell? w _ hx394_0)).trans hx394_0
                    replace hx394_1 := (HB.out.cell (World.block_lt_of_cell? w _ hx394_1)).trans hx394_1
                    replace hx394_2 := (HB.out.cell (World.block_lt_of_cell? w _ hx394_2)).trans hx394_2
                    replace hx394_3 := (HB.out.cell (World.block_lt_of_cell? w _ hx394_3)).trans hx394_3
                    replace hx394_4 := (HB.out.cell (World.block_lt_of_cell? w _ hx394_4)).trans hx394_4
                    replace p394 := eq_true p394
                    replace q394 := eq_true q394
                    go_wp2_with (first | ((with_reducible refine gate_dst (N := 15) rfl ?_); refine box_event ?hg (N := 15) ?hd (cs := #[.int .i64 0, .int .i64 0, .int .i64 0, .int .i64 0, .int .i64 0]) (t := 59) ?hr ?_; (case hd => rfl); (case hg => rfl); (case hr => first | (go_simp; done) | (go_simp; rfl)); intro gb395 hg w53 hbox hb; have n0_ := Aside0.mk (Kd.R_below (by (with_reducible repeat (first | apply Kd.R_alloc | apply Kd.R_drewN | apply Kd.R_drew)); exact HO_7.out) hb); have n1_ := Aside0.mk (Kd.R_below (Kd.R_elderB (by (with_reducible repeat (first | apply Kd.R_alloc | apply Kd.R_drewN | apply Kd.R_drew)); exact HO_12.out) gb395 (Nat.le_of_eq hg.symm)) hb); have n2_ := Aside0.mk (Kd.R_below (by (with_reducible repeat (first | apply Kd.R_alloc | apply Kd.R_drewN | apply Kd.R_drew)); exact HO_13.out) hb); have n3_ := Aside0.mk (blk_below (g := gb389) (o := .cells #[.int .i64 ((rd_T59 l0 x33_1).f0), .int .i64 ((rd_T59 l0 x33_1).f1), .int .i64 ((rd_T59 l0 x33_1).f2), .int .i64 ((rd_T59 l0 x33_1).f3), .int .i64 ((rd_T59 l0 x33_1).f4)] 59 (0, 0)) (by (with_reducible repeat (first | refine blk_drewN ?_ _ | refine blk_drew ?_ | refine blk_alloc ?_ _)); exact BK389.out) hb); have n4_ := Aside0.mk (blk_below (g := gb390) (o := .cells #[.int .i64 ((rd_T59 l0 x33_1).f1), .int .i64 ((rd_T59 l0 x33_1).f2)] 88 (0, 0)) (by (with_reducible repeat (first | refine blk_drewN ?_ _ | refine blk_drew ?_ | refine blk_alloc ?_ _)); exact BK390.out) hb); have n5_ := Aside0.mk (IsS86.below (by repeat (first | (with_reducible first | exact HI387.out | apply IsS86.alloc | apply IsS86.drewN | apply IsS86.drew | apply IsS86.set_0 | refine IsS86.far ?_ NB387_389.out _ | refine IsS86.far ?_ NB387_390.out _) | exact HI387.out)) hb); have n6_ := Aside0.mk (below_step (by repeat (first | (with_reducible first | exact HB.out | apply below_alloc | apply pw_below_drewN | apply below_drew1 | refine below_set ?_ (IsS86.ge HI387.out) | refine below_set ?_ GE389.out | refine below_set ?_ GE390.out) | exact HB.out)) hb); have n7_ := Aside0.mk (hbox); have n8_ := Aside0.mk ((by rw [hg]; exact (below_size (by repeat (first | (with_reducible first | exact HB.out | apply below_alloc | apply pw_below_drewN | apply below_drew1 | refine below_set ?_ (IsS86.ge HI387.out) | refine below_set ?_ GE389.out | refine below_set ?_ GE390.out) | exact HB.out))) : w.heap.size ≤ gb395)); have n9_ := Aside0.mk ((by rw [hg]; exact (below_size (by repeat (first | (with_reducible first | exact HB.out | apply below_alloc | apply pw_below_drewN | apply below_drew1 | refine below_set ?_ (IsS86.ge HI387.out) | refine below_set ?_ GE389.out | refine below_set ?_ GE390.out) | exact HB.out))) : w.heap.size ≤ gb395)); have n10_ := Aside0.mk ((by rw [hg]; exact Nat.ne_of_lt (blk_lt (g := gb389) (o := .cells #[.int .i64 ((rd_T59 l0 x33_1).f0), .int .i64 ((rd_T59 l0 x33_1).f1), .int .i64 ((rd_T59 l0 x33_1).f2), .int .i64 ((rd_T59 l0 x33_1).f3), .int .i64 ((rd_T59 l0 x33_1).f4)] 59 (0, 0)) (by (with_reducible repeat (first | refine blk_drewN ?_ _ | refine blk_drew ?_ | refine blk_alloc ?_ _)); exact BK389.out)) : gb389 ≠ gb395)); have n11_ := Aside0.mk ((by rw [hg]; exact Nat.ne_of_gt (blk_lt (g := gb389) (o := .cells #[.int .i64 ((rd_T59 l0 x33_1).f0), .int .i64 ((rd_T59 l0 x33_1).f1), .int .i64 ((rd_T59 l0 x33_1).f2), .int .i64 ((rd_T59 l0 x33_1).f3), .int .i64 ((rd_T59 l0 x33_1).f4)] 59 (0, 0)) (by (with_reducible repeat (first | refine blk_drewN ?_ _ | refine blk_drew ?_ | refine blk_alloc ?_ _)); exact BK389.out)) : gb395 ≠ gb389)); have n12_ := Aside0.mk ((by rw [hg]; exact Nat.ne_of_lt (blk_lt (g := gb390) (o := .cells #[.int .i64 ((rd_T59 l0 x33_1).f1), .int .i64 ((rd_T59 l0 x33_1).f2)] 88 (0, 0)) (by (with_reducible repeat (first | refine blk_drewN ?_ _ | refine blk_drew ?_ | refine blk_alloc ?_ _)); exact BK390.out)) : gb390 ≠ gb395)); have n13_ := Aside0.mk ((by rw [hg]; exact Nat.ne_of_gt (blk_lt (g := gb390) (o := .cells #[.int .i64 ((rd_T59 l0 x33_1).f1), .int .i64 ((rd_T59 l0 x33_1).f2)] 88 (0, 0)) (by (with_reducible repeat (first | refine blk_drewN ?_ _ | refine blk_drew ?_ | refine blk_alloc ?_ _)); exact BK390.out)) : gb395 ≠ gb390)); have n14_ := Aside0.mk ((by rw [hg]; exact Nat.ne_of_lt (IsS86.lt (show IsS86 w _ g387 t393 from by repeat (first | (with_reducible first | exact HI387.out | apply IsS86.alloc | apply IsS86.drewN | apply IsS86.drew | apply IsS86.set_0 | refine IsS86.far ?_ NB387_389.out _ | refine IsS86.far ?_ NB387_390.out _) | exact HI387.out))) : g387 ≠ gb395)); have n15_ := Aside0.mk ((by rw [hg]; exact Nat.ne_of_gt (IsS86.lt (show IsS86 w _ g387 t393 from by repeat (first | (with_reducible first | exact HI387.out | apply IsS86.alloc | apply IsS86.drewN | apply IsS86.drew | apply IsS86.set_0 | refine IsS86.far ?_ NB387_389.out _ | refine IsS86.far ?_ NB387_390.out _) | exact HI387.out))) : gb395 ≠ g387)); clear HO_7; clear HO_12; clear HO_13; clear BK389; clear BK390; clear HI387; clear HB; have HO_7 := n0_; have HO_12 := n1_; have HO_13 := n2_; have BK389 := n3_; have BK390 := n4_; have HI387 := n5_; have HB := n6_; have BK395 := n7_; have GW395 := n8_; have GE395 := n9_; have NB389_395 := n10_; have NB395_389 := n11_; have NB390_395 := n12_; have NB395_390 := n13_; have NB387_395 := n14_; have NB395_387 := n15_; clear n0_ n1_ n2_ n3_ n4_ n5_ n6_ n7_ n8_ n9_ n10_ n11_ n12_ n13_ n14_ n15_; clear hb hbox hg; have hnb54 := NB395_389.out; have hnc54 := NB389_395.out; have hnb55 := NB395_390.out; have hnc55 := NB390_395.out; have hnb56 := NB395_387.out; have hnc56 := NB387_395.out; have hcz57_0 : w53.cell? ⟨gb395, 0, none⟩ = some (.int .i64 0) := (blk_cell BK395.out 0).trans rfl; have hcz57_1 : w53.cell? ⟨gb395, 1, none⟩ = some (.int .i64 0) := (blk_cell BK395.out 1).trans rfl; have hcz57_2 : w53.cell? ⟨gb395, 2, none⟩ = some (.int .i64 0) := (blk_cell BK395.out 2).trans rfl; have hcz57_3 : w53.cell? ⟨gb395, 3, none⟩ = some (.int .i64 0) := (blk_cell BK395.out 3).trans rfl; have hcz57_4 : w53.cell? ⟨gb395, 4, none⟩ = some (.int .i64 0) := (blk_cell BK395.out 4).trans rfl; have hfz57_0 := blk_frozen BK395.out 0; have hfz57_1 := blk_frozen BK395.out 1; have hfz57_2 := blk_frozen BK395.out 2; have hfz57_3 := blk_frozen BK395.out 3; have hfz57_4 := blk_frozen BK395.out 4) | ((with_reducible refine gate_store (t := 59) (p := 15) rfl ?_); refine store_event (t := 59) (p := 15) (v := ?vo_w58) (w1 := (((((w53.setCell ⟨gb395, 0, none⟩ (.int .i64 ((rd_T59 l0 x49_2).f0))).setCell ⟨gb395, 1, none⟩ (.int .i64 ((rd_T59 l0 x49_2).f1))).setCell ⟨gb395, 2, none⟩ (.int .i64 ((rd_T59 l0 x49_2).f2))).setCell ⟨gb395, 3, none⟩ (.int .i64 ((rd_T59 l0 x49_2).f3))).setCell ⟨gb395, 4, none⟩ (.int .i64 ((rd_T59 l0 x49_2).f4)))) ?hg ?ho ?hn ?hr ?_; (case ho => rfl); (case hg => rfl); (case hn => rfl); (case hr => first | (go_simp; done) | (go_simp; rfl)); intro w58 hw; have n0_ : Aside0 (Kd.R (Kd.int .i64) 3 w58 w.heap.size (fun k_ => some k_ ≠ (u13 : Value).ownBlock) v384 x7_1) := ⟨(by rw [hw]; exact (by (with_reducible repeat (first | apply Kd.R_alloc | apply Kd.R_drewN | apply Kd.R_drew)); exact Kd.R_mono (Kd.R_far (p := ⟨gb395, 4, none⟩) (Kd.R_far (p := ⟨gb395, 3, none⟩) (Kd.R_far (p := ⟨gb395, 2, none⟩) (Kd.R_far (p := ⟨gb395, 1, none⟩) (Kd.R_far (p := ⟨gb395, 0, none⟩) (Kd.R_types HO_7.out BK395.out (by decide)) (fun _ hk => hk.2) (.int .i64 ((rd_T59 l0 x49_2).f0))) (fun _ hk => hk.2) (.int .i64 ((rd_T59 l0 x49_2).f1))) (fun _ hk => hk.2) (.int .i64 ((rd_T59 l0 x49_2).f2))) (fun _ hk => hk.2) (.int .i64 ((rd_T59 l0 x49_2).f3))) (fun _ hk => hk.2) (.int .i64 ((rd_T59 l0 x49_2).f4))) (fun _ hk => hk.1)))⟩; have n1_ : Aside0 (Kd.R k59 59 w58 w.heap.size (fun k_ => k_ ≠ gb389 ∧ k_ ≠ gb395) u12 x12_2) := ⟨(by rw [hw]; exact (by (with_reducible repeat (first | apply Kd.R_alloc | apply Kd.R_drewN | apply Kd.R_drew)); exact Kd.R_mono (Kd.R_far (p := ⟨gb395, 4, none⟩) (Kd.R_far (p := ⟨gb395, 3, none⟩) (Kd.R_far (p := ⟨gb395, 2, none⟩) (Kd.R_far (p := ⟨gb395, 1, none⟩) (Kd.R_far (p := ⟨gb395, 0, none⟩) (Kd.R_mono HO_12.out (fun k_ hk => (⟨hk, hk.2⟩ : _ ∧ k_ ≠ gb395))) (fun _ hk => hk.2) (.int .i64 ((rd_T59 l0 x49_2).f0))) (fun _ hk => hk.2) (.int .i64 ((rd_T59 l0 x49_2).f1))) (fun _ hk => hk.2) (.int .i64 ((rd_T59 l0 x49_2).f2))) (fun _ hk => hk.2) (.int .i64 ((rd_T59 l0 x49_2).f3))) (fun _ hk => hk.2) (.int .i64 ((rd_T59 l0 x49_2).f4))) (fun _ hk => ⟨hk.1.1, hk.1.2⟩)))⟩; have n2_ : Aside0 (Kd.R (Kd.int .i64) 3 w58 w.heap.size (fun k_ => some k_ ≠ (v384 : Value).ownBlock) u13 x13_2) := ⟨(by rw [hw]; exact (by (with_reducible repeat (first | apply Kd.R_alloc | apply Kd.R_drewN | apply Kd.R_drew)); exact Kd.R_mono (Kd.R_far (p := ⟨gb395, 4, none⟩) (Kd.R_far (p := ⟨gb395, 3, none⟩) (Kd.R_far (p := ⟨gb395, 2, none⟩) (Kd.R_far (p := ⟨gb395, 1, none⟩) (Kd.R_far (p := ⟨gb395, 0, none⟩) (Kd.R_types HO_13.out BK395.out (by decide)) (fun _ hk => hk.2) (.int .i64 ((rd_T59 l0 x49_2).f0))) (fun _ hk => hk.2) (.int .i64 ((rd_T59 l0 x49_2).f1))) (fun _ hk => hk.2) (.int .i64 ((rd_T59 l0 x49_2).f2))) (fun _ hk => hk.2) (.int .i64 ((rd_T59 l0 x49_2).f3))) (fun _ hk => hk.2) (.int .i64 ((rd_T59 l0 x49_2).f4))) (fun _ hk => hk.1)))⟩; have n3_ : Aside0 (w58.heap[gb389]? = some (.cells #[.int .i64 ((rd_T59 l0 x33_1).f0), .int .i64 ((rd_T59 l0 x33_1).f1), .int .i64 ((rd_T59 l0 x33_1).f2), .int .i64 ((rd_T59 l0 x33_1).f3), .int .i64 ((rd_T59 l0 x33_1).f4)] 59 (0, 0))) := ⟨(by rw [hw]; exact (by (with_reducible repeat (first | refine blk_drewN ?_ _ | refine blk_drew ?_ | refine blk_alloc ?_ _)); refine blk_far ?_ NB389_395.out _; (with_reducible repeat (first | refine blk_drewN ?_ _ | refine blk_drew ?_ | refine blk_alloc ?_ _)); refine blk_far ?_ NB389_395.out _; (with_reducible repeat (first | refine blk_drewN ?_ _ | refine blk_drew ?_ | refine blk_alloc ?_ _)); refine blk_far ?_ NB389_395.out _; (with_reducible repeat (first | refine blk_drewN ?_ _ | refine blk_drew ?_ | refine blk_alloc ?_ _)); refine blk_far ?_ NB389_395.out _; (with_reducible repeat (first | refine blk_drewN ?_ _ | refine blk_drew ?_ | refine blk_alloc ?_ _)); refine blk_far ?_ NB389_395.out _; (with_reducible repeat (first | refine blk_drewN ?_ _ | refine blk_drew ?_ | refine blk_alloc ?_ _)); exact BK389.out))⟩; have n4_ : Aside0 (w58.heap[gb390]? = some (.cells #[.int .i64 ((rd_T59 l0 x33_1).f1), .int .i64 ((rd_T59 l0 x33_1).f2)] 88 (0, 0))) := ⟨(by rw [hw]; exact (by (with_reducible repeat (first | refine blk_drewN ?_ _ | refine blk_drew ?_ | refine blk_alloc ?_ _)); refine blk_far ?_ NB390_395.out _; (with_reducible repeat (first | refine blk_drewN ?_ _ | refine blk_drew ?_ | refine blk_alloc ?_ _)); refine blk_far ?_ NB390_395.out _; (with_reducible repeat (first | refine blk_drewN ?_ _ | refine blk_drew ?_ | refine blk_alloc ?_ _)); refine blk_far ?_ NB390_395.out _; (with_reducible repeat (first | refine blk_drewN ?_ _ | refine blk_drew ?_ | refine blk_alloc ?_ _)); refine blk_far ?_ NB390_395.out _; (with_reducible repeat (first | refine blk_drewN ?_ _ | refine blk_drew ?_ | refine blk_alloc ?_ _)); refine blk_far ?_ NB390_395.out _; (with_reducible repeat (first | refine blk_drewN ?_ _ | refine blk_drew ?_ | refine blk_alloc ?_ _)); exact BK390.out))⟩; have n5_ : Aside0 (w58.heap[gb395]? = some (.cells #[.int .i64 ((rd_T59 l0 x49_2).f0), .int .i64 ((rd_T59 l0 x49_2).f1), .int .i64 ((rd_T59 l0 x49_2).f2), .int .i64 ((rd_T59 l0 x49_2).f3), .int .i64 ((rd_T59 l0 x49_2).f4)] 59 (0, 0))) := ⟨(by rw [hw]; exact (by (with_reducible repeat (first | refine blk_drewN ?_ _ | refine blk_drew ?_ | refine blk_alloc ?_ _)); refine blk_put (cs := #[.int .i64 ((rd_T59 l0 x49_2).f0), .int .i64 ((rd_T59 l0 x49_2).f1), .int .i64 ((rd_T59 l0 x49_2).f2), .int .i64 ((rd_T59 l0 x49_2).f3), .int .i64 0]) ?_ 4 _ rfl; (with_reducible repeat (first | refine blk_drewN ?_ _ | refine blk_drew ?_ | refine blk_alloc ?_ _)); refine blk_put (cs := #[.int .i64 ((rd_T59 l0 x49_2).f0), .int .i64 ((rd_T59 l0 x49_2).f1), .int .i64 ((rd_T59 l0 x49_2).f2), .int .i64 0, .int .i64 0]) ?_ 3 _ rfl; (with_reducible repeat (first | refine blk_drewN ?_ _ | refine blk_drew ?_ | refine blk_alloc ?_ _)); refine blk_put (cs := #[.int .i64 ((rd_T59 l0 x49_2).f0), .int .i64 ((rd_T59 l0 x49_2).f1), .int .i64 0, .int .i64 0, .int .i64 0]) ?_ 2 _ rfl; (with_reducible repeat (first | refine blk_drewN ?_ _ | refine blk_drew ?_ | refine blk_alloc ?_ _)); refine blk_put (cs := #[.int .i64 ((rd_T59 l0 x49_2).f0), .int .i64 0, .int .i64 0, .int .i64 0, .int .i64 0]) ?_ 1 _ rfl; (with_reducible repeat (first | refine blk_drewN ?_ _ | refine blk_drew ?_ | refine blk_alloc ?_ _)); refine blk_put (cs := #[.int .i64 0, .int .i64 0, .int .i64 0, .int .i64 0, .int .i64 0]) ?_ 0 _ rfl; (with_reducible repeat (first | refine blk_drewN ?_ _ | refine blk_drew ?_ | refine blk_alloc ?_ _)); exact BK395.out))⟩; have n6_ : Aside0 (IsS86 w w58 g387 t393) := ⟨(by rw [hw]; exact (by repeat (first | (with_reducible first | exact HI387.out | apply IsS86.alloc | apply IsS86.drewN | apply IsS86.drew | apply IsS86.set_0 | refine IsS86.far ?_ NB387_389.out _ | refine IsS86.far ?_ NB387_390.out _ | refine IsS86.far ?_ NB387_395.out _) | exact HI387.out)))⟩; have n7_ : Aside0 (Below w.heap.size w w58) := ⟨(by rw [hw]; exact (by repeat (first | (with_reducible first | exact HB.out | apply below_alloc | apply pw_below_drewN | apply below_drew1 | refine below_set ?_ (IsS86.ge HI387.out) | refine below_set ?_ GE389.out | refine below_set ?_ GE390.out | refine below_set ?_ GE395.out) | exact HB.out)))⟩; clear hw; clear HO_7; clear HO_12; clear HO_13; clear BK389; clear BK390; clear BK395; clear HI387; clear HB; have HO_7 := n0_; have HO_12 := n1_; have HO_13 := n2_; have BK389 := n3_; have BK390 := n4_; have BK395 := n5_; have HI387 := n6_; have HB := n7_; clear n0_ n1_ n2_ n3_ n4_ n5_ n6_ n7_; have hcz59_0 : w58.cell? ⟨gb395, 0, none⟩ = some (.int .i64 ((rd_T59 l0 x49_2).f0)) := (blk_cell BK395.out 0).trans rfl; have hcz59_1 : w58.cell? ⟨gb395, 1, none⟩ = some (.int .i64 ((rd_T59 l0 x49_2).f1)) := (blk_cell BK395.out 1).trans rfl; have hcz59_2 : w58.cell? ⟨gb395, 2, none⟩ = some (.int .i64 ((rd_T59 l0 x49_2).f2)) := (blk_cell BK395.out 2).trans rfl; have hcz59_3 : w58.cell? ⟨gb395, 3, none⟩ = some (.int .i64 ((rd_T59 l0 x49_2).f3)) := (blk_cell BK395.out 3).trans rfl; have hcz59_4 : w58.cell? ⟨gb395, 4, none⟩ = some (.int .i64 ((rd_T59 l0 x49_2).f4)) := (blk_cell BK395.out 4).trans rfl; have hfz59_0 := blk_frozen BK395.out 0; have hfz59_1 := blk_frozen BK395.out 1; have hfz59_2 := blk_frozen BK395.out 2; have hfz59_3 := blk_frozen BK395.out 3; have hfz59_4 := blk_frozen BK395.out 4; have hnb60 := NB389_390.out; have hnc60 := NB390_389.out; have hnb61 := NB389_387.out; have hnc61 := NB387_389.out; have hcz62_0 : w58.cell? ⟨gb389, 0, none⟩ = some (.int .i64 ((rd_T59 l0 x33_1).f0)) := (blk_cell BK389.out 0).trans rfl; have hcz62_1 : w58.cell? ⟨gb389, 1, none⟩ = some (.int .i64 ((rd_T59 l0 x33_1).f1)) := (blk_cell BK389.out 1).trans rfl; have hcz62_2 : w58.cell? ⟨gb389, 2, none⟩ = some (.int .i64 ((rd_T59 l0 x33_1).f2)) := (blk_cell BK389.out 2).trans rfl; have hcz62_3 : w58.cell? ⟨gb389, 3, none⟩ = some (.int .i64 ((rd_T59 l0 x33_1).f3)) := (blk_cell BK389.out 3).trans rfl; have hcz62_4 : w58.cell? ⟨gb389, 4, none⟩ = some (.int .i64 ((rd_T59 l0 x33_1).f4)) := (blk_cell BK389.out 4).trans rfl; have hfz62_0 := blk_frozen BK389.out 0; have hfz62_1 := blk_frozen BK389.out 1; have hfz62_2 := blk_frozen BK389.out 2; have hfz62_3 := blk_frozen BK389.out 3; have hfz62_4 := blk_frozen BK389.out 4) | ((with_reducible refine gate_builtin (b := .append) (xs := #[.tmp 66, .tmp 68]) rfl ?_); at_builtin; refine Kd.R_append k59 (w0 := w) w.heap.size rfl (.tmp 66) (.tmp 68) 54 59 (.agg #[(.int .i64 0), (.int .i64 0), (.int .i64 0), (.int .i64 0), (.int .i64 0)]) 40 rfl Try.underlying54 info59 rfl (by decide) (by omega) u12 x12_2 (⟨(rd_T59 l0 x49_2).f0, (rd_T59 l0 x49_2).f1, (rd_T59 l0 x49_2).f2, (rd_T59 l0 x49_2).f3, (rd_T59 l0 x49_2).f4⟩ : S59) [.int .i64 ((rd_T59 l0 x49_2).f0), .int .i64 ((rd_T59 l0 x49_2).f1), .int .i64 ((rd_T59 l0 x49_2).f2), .int .i64 ((rd_T59 l0 x49_2).f3), .int .i64 ((rd_T59 l0 x49_2).f4)] (fun k_ => k_ ≠ gb389 ∧ k_ ≠ gb395) (fun _ => False) rfl rfl ?aP (fun _ hk => hk.elim) ?aF ?aO ?aB ?aS ?aL ?_; (case aP => exact k59_mkM _ _ _ (⟨(rd_T59 l0 x49_2).f0, (rd_T59 l0 x49_2).f1, (rd_T59 l0 x49_2).f2, (rd_T59 l0 x49_2).f3, (rd_T59 l0 x49_2).f4⟩ : S59)); (case aB => exact (by repeat (first | (with_reducible first | exact HB.out | apply below_alloc | apply pw_below_drewN | apply below_drew1 | refine below_set ?_ (IsS86.ge HI387.out) | refine below_set ?_ GE389.out | refine below_set ?_ GE390.out | refine below_set ?_ GE395.out) | exact HB.out))); (case aF => exact (fun k_ hk => ⟨Kd.freshB (g := gb389) (o := .cells #[.int .i64 ((rd_T59 l0 x33_1).f0), .int .i64 ((rd_T59 l0 x33_1).f1), .int .i64 ((rd_T59 l0 x33_1).f2), .int .i64 ((rd_T59 l0 x33_1).f3), .int .i64 ((rd_T59 l0 x33_1).f4)] 59 (0, 0)) (by (with_reducible repeat (first | refine blk_drewN ?_ _ | refine blk_drew ?_ | refine blk_alloc ?_ _)); exact BK389.out) k_ hk, Kd.freshB (g := gb395) (o := .cells #[.int .i64 ((rd_T59 l0 x49_2).f0), .int .i64 ((rd_T59 l0 x49_2).f1), .int .i64 ((rd_T59 l0 x49_2).f2), .int .i64 ((rd_T59 l0 x49_2).f3), .int .i64 ((rd_T59 l0 x49_2).f4)] 59 (0, 0)) (by (with_reducible repeat (first | refine blk_drewN ?_ _ | refine blk_drew ?_ | refine blk_alloc ?_ _)); exact BK395.out) k_ hk⟩)); (case aO => exact (by (with_reducible repeat (first | apply Kd.R_alloc | apply Kd.R_drewN | apply Kd.R_drew)); exact HO_12.out)); (case aS => exact (below_size (by repeat (first | (with_reducible first | exact HB.out | apply below_alloc | apply pw_below_drewN | apply below_drew1 | refine below_set ?_ (IsS86.ge HI387.out) | refine below_set ?_ GE389.out | refine below_set ?_ GE390.out | refine below_set ?_ GE395.out) | exact HB.out)))); (case aL => have := LMc51.out; omega); intro v397 w63 ho hb hg hat; rw [← Ny396.out] at ho; have n0_ := Aside0.mk (Kd.R_over' (by (with_reducible repeat (first | apply Kd.R_alloc | apply Kd.R_drewN | apply Kd.R_drew)); exact HO_7.out) (Kd.R_typed (by (with_reducible repeat (first | apply Kd.R_alloc | apply Kd.R_drewN | apply Kd.R_drew)); exact HO_12.out)) (by decide) hg); have n1_ := Aside0.mk (Kd.R_over' (by (with_reducible repeat (first | apply Kd.R_alloc | apply Kd.R_drewN | apply Kd.R_drew)); exact HO_13.out) (Kd.R_typed (by (with_reducible repeat (first | apply Kd.R_alloc | apply Kd.R_drewN | apply Kd.R_drew)); exact HO_12.out)) (by decide) hg); have n2_ := Aside0.mk (blk_grown (g := gb389) (o := .cells #[.int .i64 ((rd_T59 l0 x33_1).f0), .int .i64 ((rd_T59 l0 x33_1).f1), .int .i64 ((rd_T59 l0 x33_1).f2), .int .i64 ((rd_T59 l0 x33_1).f3), .int .i64 ((rd_T59 l0 x33_1).f4)] 59 (0, 0)) (by (with_reducible repeat (first | refine blk_drewN ?_ _ | refine blk_drew ?_ | refine blk_alloc ?_ _)); exact BK389.out) hg (Kd.R_away HO_12.out (fun _ hk => hk.1))); have n3_ := Aside0.mk (blk_grown (g := gb390) (o := .cells #[.int .i64 ((rd_T59 l0 x33_1).f1), .int .i64 ((rd_T59 l0 x33_1).f2)] 88 (0, 0)) (by (with_reducible repeat (first | refine blk_drewN ?_ _ | refine blk_drew ?_ | refine blk_alloc ?_ _)); exact BK390.out) hg (Kd.R_ne HO_12.out BK390.out (by decide))); have n4_ := Aside0.mk (IsS86.grown (by repeat (first | (with_reducible first | exact HI387.out | apply IsS86.alloc | apply IsS86.drewN | apply IsS86.drew | apply IsS86.set_0 | refine IsS86.far ?_ NB387_389.out _ | refine IsS86.far ?_ NB387_390.out _ | refine IsS86.far ?_ NB387_395.out _) | exact HI387.out)) hg (IsS86.own_ne HI387.out HO_12.out (by decide))); have n5_ := Aside0.mk (blk_grown (g := gb395) (o := .cells #[.int .i64 ((rd_T59 l0 x49_2).f0), .int .i64 ((rd_T59 l0 x49_2).f1), .int .i64 ((rd_T59 l0 x49_2).f2), .int .i64 ((rd_T59 l0 x49_2).f3), .int .i64 ((rd_T59 l0 x49_2).f4)] 59 (0, 0)) (by (with_reducible repeat (first | refine blk_drewN ?_ _ | refine blk_drew ?_ | refine blk_alloc ?_ _)); exact BK395.out) hg (Kd.R_away HO_12.out (fun _ hk => hk.2))); have n6_ := Aside0.mk (hb); have n7_ := Aside0.mk (ho); clear HO_7; clear HO_13; clear BK389; clear BK390; clear HI387; clear BK395; clear HB; clear HO_12; have HO_7 := n0_; have HO_13 := n1_; have BK389 := n2_; have BK390 := n3_; have HI387 := n4_; have BK395 := n5_; have HB := n6_; have HO398 := n7_; clear n0_ n1_ n2_ n3_ n4_ n5_ n6_ n7_; clear ho hb hg hat) | ((with_reducible refine gate_builtin (b := .append) (xs := #[.tmp 70, .tmp 72]) rfl ?_); at_builtin; refine Kd.R_append (Kd.int .i64) (w0 := w) w.heap.size rfl (.tmp 70) (.tmp 72) 22 3 (.int .i64 0) 8 rfl Try.underlying22 info3 rfl (by decide) (by omega) u13 x13_2 x49_2 [.int .i64 x49_2] (fun k_ => some k_ ≠ (v384 : Value).ownBlock) (fun _ => False) rfl rfl ?aP (fun _ hk => hk.elim) ?aF ?aO ?aB ?aS ?aL ?_; (case aP => exact rfl); (case aB => exact (by repeat (first | (with_reducible first | exact HB.out | apply below_alloc | apply pw_below_drewN | apply below_drew1 | refine below_set ?_ (IsS86.ge HI387.out) | refine below_set ?_ GE389.out | refine below_set ?_ GE390.out | refine below_set ?_ GE395.out) | exact HB.out))); (case aF => exact (fun k_ hk => Kd.fresh' (Kd.R_lt (by (with_reducible repeat (first | apply Kd.R_alloc | apply Kd.R_drewN | apply Kd.R_drew)); exact HO_7.out)) k_ hk)); (case aO => exact (by (with_reducible repeat (first | apply Kd.R_alloc | apply Kd.R_drewN | apply Kd.R_drew)); exact HO_13.out)); (case aS => exact (below_size (by repeat (first | (with_reducible first | exact HB.out | apply below_alloc | apply pw_below_drewN | apply below_drew1 | refine below_set ?_ (IsS86.ge HI387.out) | refine below_set ?_ GE389.out | refine below_set ?_ GE390.out | refine below_set ?_ GE395.out) | exact HB.out)))); (case aL => have := LMc52.out; omega); intro v400 w64 ho hb hg hat; rw [← Ny399.out] at ho; have n0_ := Aside0.mk (Kd.R_after (ok := (fun _ => True)) (by (with_reducible repeat (first | apply Kd.R_alloc | apply Kd.R_drewN | apply Kd.R_drew)); exact Kd.R_mono HO_7.out (fun _ hk => ⟨trivial, hk⟩)) hg hat); have n1_ := Aside0.mk (blk_grown (g := gb389) (o := .cells #[.int .i64 ((rd_T59 l0 x33_1).f0), .int .i64 ((rd_T59 l0 x33_1).f1), .int .i64 ((rd_T59 l0 x33_1).f2), .int .i64 ((rd_T59 l0 x33_1).f3), .int .i64 ((rd_T59 l0 x33_1).f4)] 59 (0, 0)) (by (with_reducible repeat (first | refine blk_drewN ?_ _ | refine blk_drew ?_ | refine blk_alloc ?_ _)); exact BK389.out) hg (Kd.R_ne HO_13.out BK389.out (by decide))); have n2_ := Aside0.mk (blk_grown (g := gb390) (o := .cells #[.int .i64 ((rd_T59 l0 x33_1).f1), .int .i64 ((rd_T59 l0 x33_1).f2)] 88 (0, 0)) (by (with_reducible repeat (first | refine blk_drewN ?_ _ | refine blk_drew ?_ | refine blk_alloc ?_ _)); exact BK390.out) hg (Kd.R_ne HO_13.out BK390.out (by decide))); have n3_ := Aside0.mk (IsS86.grown (by repeat (first | (with_reducible first | exact HI387.out | apply IsS86.alloc | apply IsS86.drewN | apply IsS86.drew | apply IsS86.set_0 | refine IsS86.far ?_ NB387_389.out _ | refine IsS86.far ?_ NB387_390.out _ | refine IsS86.far ?_ NB387_395.out _) | exact HI387.out)) hg (IsS86.own_ne HI387.out HO_13.out (by decide))); have n4_ := Aside0.mk (blk_grown (g := gb395) (o := .cells #[.int .i64 ((rd_T59 l0 x49_2).f0), .int .i64 ((rd_T59 l0 x49_2).f1), .int .i64 ((rd_T59 l0 x49_2).f2), .int .i64 ((rd_T59 l0 x49_2).f3), .int .i64 ((rd_T59 l0 x49_2).f4)] 59 (0, 0)) (by (with_reducible repeat (first | refine blk_drewN ?_ _ | refine blk_drew ?_ | refine blk_alloc ?_ _)); exact BK395.out) hg (Kd.R_ne HO_13.out BK395.out (by decide))); have n5_ := Aside0.mk (Kd.R_over' (by (with_reducible repeat (first | apply Kd.R_alloc | apply Kd.R_drewN | apply Kd.R_drew)); exact HO398.out) (Kd.R_typed (by (with_reducible repeat (first | apply Kd.R_alloc | apply Kd.R_drewN | apply Kd.R_drew)); exact HO_13.out)) (by decide) hg); have n6_ := Aside0.mk (hb); have n7_ := Aside0.mk (ho); clear HO_7; clear BK389; clear BK390; clear HI387; clear BK395; clear HO398; clear HB; clear HO_13; have HO_7 := n0_; have BK389 := n1_; have BK390 := n2_; have HI387 := n3_; have BK395 := n4_; have HO398 := n5_; have HB := n6_; have HO401 := n7_; clear n0_ n1_ n2_ n3_ n4_ n5_ n6_ n7_; clear ho hb hg hat))
                    go_roundg k2
                    case measure => have := HK1.out; have := HK2.out; omega
                    case rel => exact ⟨(y396), (y399), (wrap64 (x49_2 + 1)), (by first | rfl | (simp; done) | (simp [*]; done)), H', ⟨by have := HK1.out; have := HK2.out; omega⟩, ⟨by (with_reducible repeat (first | apply Kd.R_alloc | apply Kd.R_drewN | apply Kd.R_drew)); exact Kd.R_mono HO_7.out (fun _ hk => hk.2)⟩, ⟨by (with_reducible repeat (first | apply Kd.R_alloc | apply Kd.R_drewN | apply Kd.R_drew)); exact Kd.R_mono HO398.out (fun _ hk => hk.1)⟩, ⟨by (with_reducible repeat (first | apply Kd.R_alloc | apply Kd.R_drewN | apply Kd.R_drew)); exact HO401.out⟩, ⟨by (with_reducible repeat (first | refine blk_drewN ?_ _ | refine blk_drew ?_ | refine blk_alloc ?_ _)); exact BK389.out⟩, ⟨by (with_reducible repeat (first | refine blk_drewN ?_ _ | refine blk_drew ?_ | refine blk_alloc ?_ _)); exact BK390.out⟩, ⟨by repeat (first | (with_reducible first | exact HI387.out | apply IsS86.alloc | apply IsS86.drewN | apply IsS86.drew | apply IsS86.set_0 | refine IsS86.far ?_ NB387_389.out _ | refine IsS86.far ?_ NB387_390.out _ | refine IsS86.far ?_ NB387_395.out _) | exact HI387.out)⟩, ⟨by repeat (first | (with_reducible first | exact HB.out | apply below_alloc | apply pw_below_drewN | apply below_drew1 | refine below_set ?_ (IsS86.ge HI387.out) | refine below_set ?_ GE389.out | refine below_set ?_ GE390.out | refine below_set ?_ GE395.out) | exact HB.out)⟩⟩
                   ·rw [if_neg c52] at H
                    exact absurd H (by simp)
                  ·rw [if_neg c51] at H
                   exact absurd H (by simp)
                 ·rw [if_neg c50] at H
                  have c50b0 : (((rd_T59 l0 x49_2).f2) == ((rd_T59 l0 x33_1).f2)) = false := beq_eq_false_iff_ne.mpr c50
                  have c50b1 : (((rd_T59 l0 x49_2).f2) != ((rd_T59 l0 x33_1).f2)) = true := bne_iff_ne.mpr c50
                  have H' := Aside0.mk H
                  clear H
                  have p394 : 0 ≤ (x49_2 : Int) := of_decide_eq_true (by first | (with_reducible assumption) | assumption)
                  have q394 : x49_2 < (l0.length : Int) := of_decide_eq_true (by first | (with_reducible assumption) | assumption)
                  obtain ⟨ad394, e394, hx394_0, hx394_1, hx394_2, hx394_3, hx394_4⟩ := at_T59 HR0.out x49_2 p394 q394
                  obtain rfl : ad388 = ad394 := (by injection e394)
                  replace hx394_0 := (HB.out.cell (World.block_lt_of_cell? w _ hx394_0)).trans hx394_0
                  replace hx394_1 := (HB.out.cell (World.block_lt_of_cell? w _ hx394_1)).trans hx394_1
                  replace hx394_2 := (HB.out.cell (World.block_lt_of_cell? w _ hx394_2)).trans hx394_2
                  replace hx394_3 := (HB.out.cell (World.block_lt_of_cell? w _ hx394_3)).trans hx394_3
                  replace hx394_4 := (HB.out.cell (World.block_lt_of_cell? w _ hx394_4)).trans hx394_4
                  replace p394 := eq_true p394
                  replace q394 := eq_true q394
                  go_wp2_with (first | ((with_reducible refine gate_dst (N := 15) rfl ?_); refine box_event ?hg (N := 15) ?hd (cs := #[.int .i64 0, .int .i64 0, .int .i64 0, .int .i64 0, .int .i64 0]) (t := 59) ?hr ?_; (case hd => rfl); (case hg => rfl); (case hr => first | (go_simp; done) | (go_simp; rfl)); intro gb395 hg w65 hbox hb; have n0_ := Aside0.mk (Kd.R_below (by (with_reducible repeat (first | apply Kd.R_alloc | apply Kd.R_drewN | apply Kd.R_drew)); exact HO_7.out) hb); have n1_ := Aside0.mk (Kd.R_below (Kd.R_elderB (by (with_reducible repeat (first | apply Kd.R_alloc | apply Kd.R_drewN | apply Kd.R_drew)); exact HO_12.out) gb395 (Nat.le_of_eq hg.symm)) hb); have n2_ := Aside0.mk (Kd.R_below (by (with_reducible repeat (first | apply Kd.R_alloc | apply Kd.R_drewN | apply Kd.R_drew)); exact HO_13.out) hb); have n3_ := Aside0.mk (blk_below (g := gb389) (o := .cells #[.int .i64 ((rd_T59 l0 x33_1).f0), .int .i64 ((rd_T59 l0 x33_1).f1), .int .i64 ((rd_T59 l0 x33_1).f2), .int .i64 ((rd_T59 l0 x33_1).f3), .int .i64 ((rd_T59 l0 x33_1).f4)] 59 (0, 0)) (by (with_reducible repeat (first | refine blk_drewN ?_ _ | refine blk_drew ?_ | refine blk_alloc ?_ _)); exact BK389.out) hb); have n4_ := Aside0.mk (blk_below (g := gb390) (o := .cells #[.int .i64 ((rd_T59 l0 x33_1).f1), .int .i64 ((rd_T59 l0 x33_1).f2)] 88 (0, 0)) (by (with_reducible repeat (first | refine blk_drewN ?_ _ | refine blk_drew ?_ | refine blk_alloc ?_ _)); exact BK390.out) hb); have n5_ := Aside0.mk (IsS86.below (by repeat (first | (with_reducible first | exact HI387.out | apply IsS86.alloc | apply IsS86.drewN | apply IsS86.drew | apply IsS86.set_0 | refine IsS86.far ?_ NB387_389.out _ | refine IsS86.far ?_ NB387_390.out _) | exact HI387.out)) hb); have n6_ := Aside0.mk (below_step (by repeat (first | (with_reducible first | exact HB.out | apply below_alloc | apply pw_below_drewN | apply below_drew1 | refine below_set ?_ (IsS86.ge HI387.out) | refine below_set ?_ GE389.out | refine below_set ?_ GE390.out) | exact HB.out)) hb); have n7_ := Aside0.mk (hbox); have n8_ := Aside0.mk ((by rw [hg]; exact (below_size (by repeat (first | (with_reducible first | exact HB.out | apply below_alloc | apply pw_below_drewN | apply below_drew1 | refine below_set ?_ (IsS86.ge HI387.out) | refine below_set ?_ GE389.out | refine below_set ?_ GE390.out) | exact HB.out))) : w.heap.size ≤ gb395)); have n9_ := Aside0.mk ((by rw [hg]; exact (below_size (by repeat (first | (with_reducible first | exact HB.out | apply below_alloc | apply pw_below_drewN | apply below_drew1 | refine below_set ?_ (IsS86.ge HI387.out) | refine below_set ?_ GE389.out | refine below_set ?_ GE390.out) | exact HB.out))) : w.heap.size ≤ gb395)); have n10_ := Aside0.mk ((by rw [hg]; exact Nat.ne_of_lt (blk_lt (g := gb389) (o := .cells #[.int .i64 ((rd_T59 l0 x33_1).f0), .int .i64 ((rd_T59 l0 x33_1).f1), .int .i64 ((rd_T59 l0 x33_1).f2), .int .i64 ((rd_T59 l0 x33_1).f3), .int .i64 ((rd_T59 l0 x33_1).f4)] 59 (0, 0)) (by (with_reducible repeat (first | refine blk_drewN ?_ _ | refine blk_drew ?_ | refine blk_alloc ?_ _)); exact BK389.out)) : gb389 ≠ gb395)); have n11_ := Aside0.mk ((by rw [hg]; exact Nat.ne_of_gt (blk_lt (g := gb389) (o := .cells #[.int .i64 ((rd_T59 l0 x33_1).f0), .int .i64 ((rd_T59 l0 x33_1).f1), .int .i64 ((rd_T59 l0 x33_1).f2), .int .i64 ((rd_T59 l0 x33_1).f3), .int .i64 ((rd_T59 l0 x33_1).f4)] 59 (0, 0)) (by (with_reducible repeat (first | refine blk_drewN ?_ _ | refine blk_drew ?_ | refine blk_alloc ?_ _)); exact BK389.out)) : gb395 ≠ gb389)); have n12_ := Aside0.mk ((by rw [hg]; exact Nat.ne_of_lt (blk_lt (g := gb390) (o := .cells #[.int .i64 ((rd_T59 l0 x33_1).f1), .int .i64 ((rd_T59 l0 x33_1).f2)] 88 (0, 0)) (by (with_reducible repeat (first | refine blk_drewN ?_ _ | refine blk_drew ?_ | refine blk_alloc ?_ _)); exact BK390.out)) : gb390 ≠ gb395)); have n13_ := Aside0.mk ((by rw [hg]; exact Nat.ne_of_gt (blk_lt (g := gb390) (o := .cells #[.int .i64 ((rd_T59 l0 x33_1).f1), .int .i64 ((rd_T59 l0 x33_1).f2)] 88 (0, 0)) (by (with_reducible repeat (first | refine blk_drewN ?_ _ | refine blk_drew ?_ | refine blk_alloc ?_ _)); exact BK390.out)) : gb395 ≠ gb390)); have n14_ := Aside0.mk ((by rw [hg]; exact Nat.ne_of_lt (IsS86.lt (show IsS86 w _ g387 t393 from by repeat (first | (with_reducible first | exact HI387.out | apply IsS86.alloc | apply IsS86.drewN | apply IsS86.drew | apply IsS86.set_0 | refine IsS86.far ?_ NB387_389.out _ | refine IsS86.far ?_ NB387_390.out _) | exact HI387.out))) : g387 ≠ gb395)); have n15_ := Aside0.mk ((by rw [hg]; exact Nat.ne_of_gt (IsS86.lt (show IsS86 w _ g387 t393 from by repeat (first | (with_reducible first | exact HI387.out | apply IsS86.alloc | apply IsS86.drewN | apply IsS86.drew | apply IsS86.set_0 | refine IsS86.far ?_ NB387_389.out _ | refine IsS86.far ?_ NB387_390.out _) | exact HI387.out))) : gb395 ≠ g387)); clear HO_7; clear HO_12; clear HO_13; clear BK389; clear BK390; clear HI387; clear HB; have HO_7 := n0_; have HO_12 := n1_; have HO_13 := n2_; have BK389 := n3_; have BK390 := n4_; have HI387 := n5_; have HB := n6_; have BK395 := n7_; have GW395 := n8_; have GE395 := n9_; have NB389_395 := n10_; have NB395_389 := n11_; have NB390_395 := n12_; have NB395_390 := n13_; have NB387_395 := n14_; have NB395_387 := n15_; clear n0_ n1_ n2_ n3_ n4_ n5_ n6_ n7_ n8_ n9_ n10_ n11_ n12_ n13_ n14_ n15_; clear hb hbox hg; have hnb66 := NB395_389.out; have hnc66 := NB389_395.out; have hnb67 := NB395_390.out; have hnc67 := NB390_395.out; have hnb68 := NB395_387.out; have hnc68 := NB387_395.out; have hcz69_0 : w65.cell? ⟨gb395, 0, none⟩ = some (.int .i64 0) := (blk_cell BK395.out 0).trans rfl; have hcz69_1 : w65.cell? ⟨gb395, 1, none⟩ = some (.int .i64 0) := (blk_cell BK395.out 1).trans rfl; have hcz69_2 : w65.cell? ⟨gb395, 2, none⟩ = some (.int .i64 0) := (blk_cell BK395.out 2).trans rfl; have hcz69_3 : w65.cell? ⟨gb395, 3, none⟩ = some (.int .i64 0) := (blk_cell BK395.out 3).trans rfl; have hcz69_4 : w65.cell? ⟨gb395, 4, none⟩ = some (.int .i64 0) := (blk_cell BK395.out 4).trans rfl; have hfz69_0 := blk_frozen BK395.out 0; have hfz69_1 := blk_frozen BK395.out 1; have hfz69_2 := blk_frozen BK395.out 2; have hfz69_3 := blk_frozen BK395.out 3; have hfz69_4 := blk_frozen BK395.out 4) | ((with_reducible refine gate_store (t := 59) (p := 15) rfl ?_); refine store_event (t := 59) (p := 15) (v := ?vo_w70) (w1 := (((((w65.setCell ⟨gb395, 0, none⟩ (.int .i64 ((rd_T59 l0 x49_2).f0))).setCell ⟨gb395, 1, none⟩ (.int .i64 ((rd_T59 l0 x49_2).f1))).setCell ⟨gb395, 2, none⟩ (.int .i64 ((rd_T59 l0 x49_2).f2))).setCell ⟨gb395, 3, none⟩ (.int .i64 ((rd_T59 l0 x49_2).f3))).setCell ⟨gb395, 4, none⟩ (.int .i64 ((rd_T59 l0 x49_2).f4)))) ?hg ?ho ?hn ?hr ?_; (case ho => rfl); (case hg => rfl); (case hn => rfl); (case hr => first | (go_simp; done) | (go_simp; rfl)); intro w70 hw; have n0_ : Aside0 (Kd.R (Kd.int .i64) 3 w70 w.heap.size (fun k_ => some k_ ≠ (u13 : Value).ownBlock) v384 x7_1) := ⟨(by rw [hw]; exact (by (with_reducible repeat (first | apply Kd.R_alloc | apply Kd.R_drewN | apply Kd.R_drew)); exact Kd.R_mono (Kd.R_far (p := ⟨gb395, 4, none⟩) (Kd.R_far (p := ⟨gb395, 3, none⟩) (Kd.R_far (p := ⟨gb395, 2, none⟩) (Kd.R_far (p := ⟨gb395, 1, none⟩) (Kd.R_far (p := ⟨gb395, 0, none⟩) (Kd.R_types HO_7.out BK395.out (by decide)) (fun _ hk => hk.2) (.int .i64 ((rd_T59 l0 x49_2).f0))) (fun _ hk => hk.2) (.int .i64 ((rd_T59 l0 x49_2).f1))) (fun _ hk => hk.2) (.int .i64 ((rd_T59 l0 x49_2).f2))) (fun _ hk => hk.2) (.int .i64 ((rd_T59 l0 x49_2).f3))) (fun _ hk => hk.2) (.int .i64 ((rd_T59 l0 x49_2).f4))) (fun _ hk => hk.1)))⟩; have n1_ : Aside0 (Kd.R k59 59 w70 w.heap.size (fun k_ => k_ ≠ gb389 ∧ k_ ≠ gb395) u12 x12_2) := ⟨(by rw [hw]; exact (by (with_reducible repeat (first | apply Kd.R_alloc | apply Kd.R_drewN | apply Kd.R_drew)); exact Kd.R_mono (Kd.R_far (p := ⟨gb395, 4, none⟩) (Kd.R_far (p := ⟨gb395, 3, none⟩) (Kd.R_far (p := ⟨gb395, 2, none⟩) (Kd.R_far (p := ⟨gb395, 1, none⟩) (Kd.R_far (p := ⟨gb395, 0, none⟩) (Kd.R_mono HO_12.out (fun k_ hk => (⟨hk, hk.2⟩ : _ ∧ k_ ≠ gb395))) (fun _ hk => hk.2) (.int .i64 ((rd_T59 l0 x49_2).f0))) (fun _ hk => hk.2) (.int .i64 ((rd_T59 l0 x49_2).f1))) (fun _ hk => hk.2) (.int .i64 ((rd_T59 l0 x49_2).f2))) (fun _ hk => hk.2) (.int .i64 ((rd_T59 l0 x49_2).f3))) (fun _ hk => hk.2) (.int .i64 ((rd_T59 l0 x49_2).f4))) (fun _ hk => ⟨hk.1.1, hk.1.2⟩)))⟩; have n2_ : Aside0 (Kd.R (Kd.int .i64) 3 w70 w.heap.size (fun k_ => some k_ ≠ (v384 : Value).ownBlock) u13 x13_2) := ⟨(by rw [hw]; exact (by (with_reducible repeat (first | apply Kd.R_alloc | apply Kd.R_drewN | apply Kd.R_drew)); exact Kd.R_mono (Kd.R_far (p := ⟨gb395, 4, none⟩) (Kd.R_far (p := ⟨gb395, 3, none⟩) (Kd.R_far (p := ⟨gb395, 2, none⟩) (Kd.R_far (p := ⟨gb395, 1, none⟩) (Kd.R_far (p := ⟨gb395, 0, none⟩) (Kd.R_types HO_13.out BK395.out (by decide)) (fun _ hk => hk.2) (.int .i64 ((rd_T59 l0 x49_2).f0))) (fun _ hk => hk.2) (.int .i64 ((rd_T59 l0 x49_2).f1))) (fun _ hk => hk.2) (.int .i64 ((rd_T59 l0 x49_2).f2))) (fun _ hk => hk.2) (.int .i64 ((rd_T59 l0 x49_2).f3))) (fun _ hk => hk.2) (.int .i64 ((rd_T59 l0 x49_2).f4))) (fun _ hk => hk.1)))⟩; have n3_ : Aside0 (w70.heap[gb389]? = some (.cells #[.int .i64 ((rd_T59 l0 x33_1).f0), .int .i64 ((rd_T59 l0 x33_1).f1), .int .i64 ((rd_T59 l0 x33_1).f2), .int .i64 ((rd_T59 l0 x33_1).f3), .int .i64 ((rd_T59 l0 x33_1).f4)] 59 (0, 0))) := ⟨(by rw [hw]; exact (by (with_reducible repeat (first | refine blk_drewN ?_ _ | refine blk_drew ?_ | refine blk_alloc ?_ _)); refine blk_far ?_ NB389_395.out _; (with_reducible repeat (first | refine blk_drewN ?_ _ | refine blk_drew ?_ | refine blk_alloc ?_ _)); refine blk_far ?_ NB389_395.out _; (with_reducible repeat (first | refine blk_drewN ?_ _ | refine blk_drew ?_ | refine blk_alloc ?_ _)); refine blk_far ?_ NB389_395.out _; (with_reducible repeat (first | refine blk_drewN ?_ _ | refine blk_drew ?_ | refine blk_alloc ?_ _)); refine blk_far ?_ NB389_395.out _; (with_reducible repeat (first | refine blk_drewN ?_ _ | refine blk_drew ?_ | refine blk_alloc ?_ _)); refine blk_far ?_ NB389_395.out _; (with_reducible repeat (first | refine blk_drewN ?_ _ | refine blk_drew ?_ | refine blk_alloc ?_ _)); exact BK389.out))⟩; have n4_ : Aside0 (w70.heap[gb390]? = some (.cells #[.int .i64 ((rd_T59 l0 x33_1).f1), .int .i64 ((rd_T59 l0 x33_1).f2)] 88 (0, 0))) := ⟨(by rw [hw]; exact (by (with_reducible repeat (first | refine blk_drewN ?_ _ | refine blk_drew ?_ | refine blk_alloc ?_ _)); refine blk_far ?_ NB390_395.out _; (with_reducible repeat (first | refine blk_drewN ?_ _ | refine blk_drew ?_ | refine blk_alloc ?_ _)); refine blk_far ?_ NB390_395.out _; (with_reducible repeat (first | refine blk_drewN ?_ _ | refine blk_drew ?_ | refine blk_alloc ?_ _)); refine blk_far ?_ NB390_395.out _; (with_reducible repeat (first | refine blk_drewN ?_ _ | refine blk_drew ?_ | refine blk_alloc ?_ _)); refine blk_far ?_ NB390_395.out _; (with_reducible repeat (first | refine blk_drewN ?_ _ | refine blk_drew ?_ | refine blk_alloc ?_ _)); refine blk_far ?_ NB390_395.out _; (with_reducible repeat (first | refine blk_drewN ?_ _ | refine blk_drew ?_ | refine blk_alloc ?_ _)); exact BK390.out))⟩; have n5_ : Aside0 (w70.heap[gb395]? = some (.cells #[.int .i64 ((rd_T59 l0 x49_2).f0), .int .i64 ((rd_T59 l0 x49_2).f1), .int .i64 ((rd_T59 l0 x49_2).f2), .int .i64 ((rd_T59 l0 x49_2).f3), .int .i64 ((rd_T59 l0 x49_2).f4)] 59 (0, 0))) := ⟨(by rw [hw]; exact (by (with_reducible repeat (first | refine blk_drewN ?_ _ | refine blk_drew ?_ | refine blk_alloc ?_ _)); refine blk_put (cs := #[.int .i64 ((rd_T59 l0 x49_2).f0), .int .i64 ((rd_T59 l0 x49_2).f1), .int .i64 ((rd_T59 l0 x49_2).f2), .int .i64 ((rd_T59 l0 x49_2).f3), .int .i64 0]) ?_ 4 _ rfl; (with_reducible repeat (first | refine blk_drewN ?_ _ | refine blk_drew ?_ | refine blk_alloc ?_ _)); refine blk_put (cs := #[.int .i64 ((rd_T59 l0 x49_2).f0), .int .i64 ((rd_T59 l0 x49_2).f1), .int .i64 ((rd_T59 l0 x49_2).f2), .int .i64 0, .int .i64 0]) ?_ 3 _ rfl; (with_reducible repeat (first | refine blk_drewN ?_ _ | refine blk_drew ?_ | refine blk_alloc ?_ _)); refine blk_put (cs := #[.int .i64 ((rd_T59 l0 x49_2).f0), .int .i64 ((rd_T59 l0 x49_2).f1), .int .i64 0, .int .i64 0, .int .i64 0]) ?_ 2 _ rfl; (with_reducible repeat (first | refine blk_drewN ?_ _ | refine blk_drew ?_ | refine blk_alloc ?_ _)); refine blk_put (cs := #[.int .i64 ((rd_T59 l0 x49_2).f0), .int .i64 0, .int .i64 0, .int .i64 0, .int .i64 0]) ?_ 1 _ rfl; (with_reducible repeat (first | refine blk_drewN ?_ _ | refine blk_drew ?_ | refine blk_alloc ?_ _)); refine blk_put (cs := #[.int .i64 0, .int .i64 0, .int .i64 0, .int .i64 0, .int .i64 0]) ?_ 0 _ rfl; (with_reducible repeat (first | refine blk_drewN ?_ _ | refine blk_drew ?_ | refine blk_alloc ?_ _)); exact BK395.out))⟩; have n6_ : Aside0 (IsS86 w w70 g387 t393) := ⟨(by rw [hw]; exact (by repeat (first | (with_reducible first | exact HI387.out | apply IsS86.alloc | apply IsS86.drewN | apply IsS86.drew | apply IsS86.set_0 | refine IsS86.far ?_ NB387_389.out _ | refine IsS86.far ?_ NB387_390.out _ | refine IsS86.far ?_ NB387_395.out _) | exact HI387.out)))⟩; have n7_ : Aside0 (Below w.heap.size w w70) := ⟨(by rw [hw]; exact (by repeat (first | (with_reducible first | exact HB.out | apply below_alloc | apply pw_below_drewN | apply below_drew1 | refine below_set ?_ (IsS86.ge HI387.out) | refine below_set ?_ GE389.out | refine below_set ?_ GE390.out | refine below_set ?_ GE395.out) | exact HB.out)))⟩; clear hw; clear HO_7; clear HO_12; clear HO_13; clear BK389; clear BK390; clear BK395; clear HI387; clear HB; have HO_7 := n0_; have HO_12 := n1_; have HO_13 := n2_; have BK389 := n3_; have BK390 := n4_; have BK395 := n5_; have HI387 := n6_; have HB := n7_; clear n0_ n1_ n2_ n3_ n4_ n5_ n6_ n7_; have hcz71_0 : w70.cell? ⟨gb395, 0, none⟩ = some (.int .i64 ((rd_T59 l0 x49_2).f0)) := (blk_cell BK395.out 0).trans rfl; have hcz71_1 : w70.cell? ⟨gb395, 1, none⟩ = some (.int .i64 ((rd_T59 l0 x49_2).f1)) := (blk_cell BK395.out 1).trans rfl; have hcz71_2 : w70.cell? ⟨gb395, 2, none⟩ = some (.int .i64 ((rd_T59 l0 x49_2).f2)) := (blk_cell BK395.out 2).trans rfl; have hcz71_3 : w70.cell? ⟨gb395, 3, none⟩ = some (.int .i64 ((rd_T59 l0 x49_2).f3)) := (blk_cell BK395.out 3).trans rfl; have hcz71_4 : w70.cell? ⟨gb395, 4, none⟩ = some (.int .i64 ((rd_T59 l0 x49_2).f4)) := (blk_cell BK395.out 4).trans rfl; have hfz71_0 := blk_frozen BK395.out 0; have hfz71_1 := blk_frozen BK395.out 1; have hfz71_2 := blk_frozen BK395.out 2; have hfz71_3 := blk_frozen BK395.out 3; have hfz71_4 := blk_frozen BK395.out 4; have hnb72 := NB389_390.out; have hnc72 := NB390_389.out; have hnb73 := NB389_387.out; have hnc73 := NB387_389.out; have hcz74_0 : w70.cell? ⟨gb389, 0, none⟩ = some (.int .i64 ((rd_T59 l0 x33_1).f0)) := (blk_cell BK389.out 0).trans rfl; have hcz74_1 : w70.cell? ⟨gb389, 1, none⟩ = some (.int .i64 ((rd_T59 l0 x33_1).f1)) := (blk_cell BK389.out 1).trans rfl; have hcz74_2 : w70.cell? ⟨gb389, 2, none⟩ = some (.int .i64 ((rd_T59 l0 x33_1).f2)) := (blk_cell BK389.out 2).trans rfl; have hcz74_3 : w70.cell? ⟨gb389, 3, none⟩ = some (.int .i64 ((rd_T59 l0 x33_1).f3)) := (blk_cell BK389.out 3).trans rfl; have hcz74_4 : w70.cell? ⟨gb389, 4, none⟩ = some (.int .i64 ((rd_T59 l0 x33_1).f4)) := (blk_cell BK389.out 4).trans rfl; have hfz74_0 := blk_frozen BK389.out 0; have hfz74_1 := blk_frozen BK389.out 1; have hfz74_2 := blk_frozen BK389.out 2; have hfz74_3 := blk_frozen BK389.out 3; have hfz74_4 := blk_frozen BK389.out 4))
                  go_roundg k2
                  case measure => have := HK1.out; have := HK2.out; omega
                  case rel => exact ⟨(x12_2), (x13_2), (wrap64 (x49_2 + 1)), (by first | rfl | (simp; done) | (simp [*]; done)), H', ⟨by have := HK1.out; have := HK2.out; omega⟩, ⟨by (with_reducible repeat (first | apply Kd.R_alloc | apply Kd.R_drewN | apply Kd.R_drew)); exact HO_7.out⟩, ⟨by (with_reducible repeat (first | apply Kd.R_alloc | apply Kd.R_drewN | apply Kd.R_drew)); exact Kd.R_mono HO_12.out (fun _ hk => hk.1)⟩, ⟨by (with_reducible repeat (first | apply Kd.R_alloc | apply Kd.R_drewN | apply Kd.R_drew)); exact HO_13.out⟩, ⟨by (with_reducible repeat (first | refine blk_drewN ?_ _ | refine blk_drew ?_ | refine blk_alloc ?_ _)); exact BK389.out⟩, ⟨by (with_reducible repeat (first | refine blk_drewN ?_ _ | refine blk_drew ?_ | refine blk_alloc ?_ _)); exact BK390.out⟩, ⟨by repeat (first | (with_reducible first | exact HI387.out | apply IsS86.alloc | apply IsS86.drewN | apply IsS86.drew | apply IsS86.set_0 | refine IsS86.far ?_ NB387_389.out _ | refine IsS86.far ?_ NB387_390.out _ | refine IsS86.far ?_ NB387_395.out _) | exact HI387.out)⟩, ⟨by repeat (first | (with_reducible first | exact HB.out | apply below_alloc | apply pw_below_drewN | apply below_drew1 | refine below_set ?_ (IsS86.ge HI387.out) | refine below_set ?_ GE389.out | refine below_set ?_ GE390.out | refine below_set ?_ GE395.out) | exact HB.out)⟩⟩
                ·rw [if_neg c49] at H
                 have c49b0 : (((rd_T59 l0 x49_2).f1) == ((rd_T59 l0 x33_1).f1)) = false := beq_eq_false_iff_ne.mpr c49
                 have c49b1 : (((rd_T59 l0 x49_2).f1) != ((rd_T59 l0 x33_1).f1)) = true := bne_iff_ne.mpr c49
                 have H' := Aside0.mk H
                 clear H
                 have p394 : 0 ≤ (x49_2 : Int) := of_decide_eq_true (by first | (with_reducible assumption) | assumption)
                 have q394 : x49_2 < (l0.length : Int) := of_decide_eq_true (by first | (with_reducible assumption) | assumption)
                 obtain ⟨ad394, e394, hx394_0, hx394_1, hx394_2, hx394_3, hx394_4⟩ := at_T59 HR0.out x49_2 p394 q394
                 obtain rfl : ad388 = ad394 := (by injection e394)
                 replace hx394_0 := (HB.out.cell (World.block_lt_of_cell? w _ hx394_0)).trans hx394_0
                 replace hx394_1 := (HB.out.cell (World.block_lt_of_cell? w _ hx394_1)).trans hx394_1
                 replace hx394_2 := (HB.out.cell (World.block_lt_of_cell? w _ hx394_2)).trans hx394_2
                 replace hx394_3 := (HB.out.cell (World.block_lt_of_cell? w _ hx394_3)).trans hx394_3
                 replace hx394_4 := (HB.out.cell (World.block_lt_of_cell? w _ hx394_4)).trans hx394_4
                 replace p394 := eq_true p394
                 replace q394 := eq_true q394
                 go_wp2_with (first | ((with_reducible refine gate_dst (N := 15) rfl ?_); refine box_event ?hg (N := 15) ?hd (cs := #[.int .i64 0, .int .i64 0, .int .i64 0, .int .i64 0, .int .i64 0]) (t := 59) ?hr ?_; (case hd => rfl); (case hg => rfl); (case hr => first | (go_simp; done) | (go_simp; rfl)); intro gb395 hg w75 hbox hb; have n0_ := Aside0.mk (Kd.R_below (by (with_reducible repeat (first | apply Kd.R_alloc | apply Kd.R_drewN | apply Kd.R_drew)); exact HO_7.out) hb); have n1_ := Aside0.mk (Kd.R_below (Kd.R_elderB (by (with_reducible repeat (first | apply Kd.R_alloc | apply Kd.R_drewN | apply Kd.R_drew)); exact HO_12.out) gb395 (Nat.le_of_eq hg.symm)) hb); have n2_ := Aside0.mk (Kd.R_below (by (with_reducible repeat (first | apply Kd.R_alloc | apply Kd.R_drewN | apply Kd.R_drew)); exact HO_13.out) hb); have n3_ := Aside0.mk (blk_below (g := gb389) (o := .cells #[.int .i64 ((rd_T59 l0 x33_1).f0), .int .i64 ((rd_T59 l0 x33_1).f1), .int .i64 ((rd_T59 l0 x33_1).f2), .int .i64 ((rd_T59 l0 x33_1).f3), .int .i64 ((rd_T59 l0 x33_1).f4)] 59 (0, 0)) (by (with_reducible repeat (first | refine blk_drewN ?_ _ | refine blk_drew ?_ | refine blk_alloc ?_ _)); exact BK389.out) hb); have n4_ := Aside0.mk (blk_below (g := gb390) (o := .cells #[.int .i64 ((rd_T59 l0 x33_1).f1), .int .i64 ((rd_T59 l0 x33_1).f2)] 88 (0, 0)) (by (with_reducible repeat (first | refine blk_drewN ?_ _ | refine blk_drew ?_ | refine blk_alloc ?_ _)); exact BK390.out) hb); have n5_ := Aside0.mk (IsS86.below (by repeat (first | (with_reducible first | exact HI387.out | apply IsS86.alloc | apply IsS86.drewN | apply IsS86.drew | apply IsS86.set_0 | refine IsS86.far ?_ NB387_389.out _ | refine IsS86.far ?_ NB387_390.out _) | exact HI387.out)) hb); have n6_ := Aside0.mk (below_step (by repeat (first | (with_reducible first | exact HB.out | apply below_alloc | apply pw_below_drewN | apply below_drew1 | refine below_set ?_ (IsS86.ge HI387.out) | refine below_set ?_ GE389.out | refine below_set ?_ GE390.out) | exact HB.out)) hb); have n7_ := Aside0.mk (hbox); have n8_ := Aside0.mk ((by rw [hg]; exact (below_size (by repeat (first | (with_reducible first | exact HB.out | apply below_alloc | apply pw_below_drewN | apply below_drew1 | refine below_set ?_ (IsS86.ge HI387.out) | refine below_set ?_ GE389.out | refine below_set ?_ GE390.out) | exact HB.out))) : w.heap.size ≤ gb395)); have n9_ := Aside0.mk ((by rw [hg]; exact (below_size (by repeat (first | (with_reducible first | exact HB.out | apply below_alloc | apply pw_below_drewN | apply below_drew1 | refine below_set ?_ (IsS86.ge HI387.out) | refine below_set ?_ GE389.out | refine below_set ?_ GE390.out) | exact HB.out))) : w.heap.size ≤ gb395)); have n10_ := Aside0.mk ((by rw [hg]; exact Nat.ne_of_lt (blk_lt (g := gb389) (o := .cells #[.int .i64 ((rd_T59 l0 x33_1).f0), .int .i64 ((rd_T59 l0 x33_1).f1), .int .i64 ((rd_T59 l0 x33_1).f2), .int .i64 ((rd_T59 l0 x33_1).f3), .int .i64 ((rd_T59 l0 x33_1).f4)] 59 (0, 0)) (by (with_reducible repeat (first | refine blk_drewN ?_ _ | refine blk_drew ?_ | refine blk_alloc ?_ _)); exact BK389.out)) : gb389 ≠ gb395)); have n11_ := Aside0.mk ((by rw [hg]; exact Nat.ne_of_gt (blk_lt (g := gb389) (o := .cells #[.int .i64 ((rd_T59 l0 x33_1).f0), .int .i64 ((rd_T59 l0 x33_1).f1), .int .i64 ((rd_T59 l0 x33_1).f2), .int .i64 ((rd_T59 l0 x33_1).f3), .int .i64 ((rd_T59 l0 x33_1).f4)] 59 (0, 0)) (by (with_reducible repeat (first | refine blk_drewN ?_ _ | refine blk_drew ?_ | refine blk_alloc ?_ _)); exact BK389.out)) : gb395 ≠ gb389)); have n12_ := Aside0.mk ((by rw [hg]; exact Nat.ne_of_lt (blk_lt (g := gb390) (o := .cells #[.int .i64 ((rd_T59 l0 x33_1).f1), .int .i64 ((rd_T59 l0 x33_1).f2)] 88 (0, 0)) (by (with_reducible repeat (first | refine blk_drewN ?_ _ | refine blk_drew ?_ | refine blk_alloc ?_ _)); exact BK390.out)) : gb390 ≠ gb395)); have n13_ := Aside0.mk ((by rw [hg]; exact Nat.ne_of_gt (blk_lt (g := gb390) (o := .cells #[.int .i64 ((rd_T59 l0 x33_1).f1), .int .i64 ((rd_T59 l0 x33_1).f2)] 88 (0, 0)) (by (with_reducible repeat (first | refine blk_drewN ?_ _ | refine blk_drew ?_ | refine blk_alloc ?_ _)); exact BK390.out)) : gb395 ≠ gb390)); have n14_ := Aside0.mk ((by rw [hg]; exact Nat.ne_of_lt (IsS86.lt (show IsS86 w _ g387 t393 from by repeat (first | (with_reducible first | exact HI387.out | apply IsS86.alloc | apply IsS86.drewN | apply IsS86.drew | apply IsS86.set_0 | refine IsS86.far ?_ NB387_389.out _ | refine IsS86.far ?_ NB387_390.out _) | exact HI387.out))) : g387 ≠ gb395)); have n15_ := Aside0.mk ((by rw [hg]; exact Nat.ne_of_gt (IsS86.lt (show IsS86 w _ g387 t393 from by repeat (first | (with_reducible first | exact HI387.out | apply IsS86.alloc | apply IsS86.drewN | apply IsS86.drew | apply IsS86.set_0 | refine IsS86.far ?_ NB387_389.out _ | refine IsS86.far ?_ NB387_390.out _) | exact HI387.out))) : gb395 ≠ g387)); clear HO_7; clear HO_12; clear HO_13; clear BK389; clear BK390; clear HI387; clear HB; have HO_7 := n0_; have HO_12 := n1_; have HO_13 := n2_; have BK389 := n3_; have BK390 := n4_; have HI387 := n5_; have HB := n6_; have BK395 := n7_; have GW395 := n8_; have GE395 := n9_; have NB389_395 := n10_; have NB395_389 := n11_; have NB390_395 := n12_; have NB395_390 := n13_; have NB387_395 := n14_; have NB395_387 := n15_; clear n0_ n1_ n2_ n3_ n4_ n5_ n6_ n7_ n8_ n9_ n10_ n11_ n12_ n13_ n14_ n15_; clear hb hbox hg; have hnb76 := NB395_389.out; have hnc76 := NB389_395.out; have hnb77 := NB395_390.out; have hnc77 := NB390_395.out; have hnb78 := NB395_387.out; have hnc78 := NB387_395.out; have hcz79_0 : w75.cell? ⟨gb395, 0, none⟩ = some (.int .i64 0) := (blk_cell BK395.out 0).trans rfl; have hcz79_1 : w75.cell? ⟨gb395, 1, none⟩ = some (.int .i64 0) := (blk_cell BK395.out 1).trans rfl; have hcz79_2 : w75.cell? ⟨gb395, 2, none⟩ = some (.int .i64 0) := (blk_cell BK395.out 2).trans rfl; have hcz79_3 : w75.cell? ⟨gb395, 3, none⟩ = some (.int .i64 0) := (blk_cell BK395.out 3).trans rfl; have hcz79_4 : w75.cell? ⟨gb395, 4, none⟩ = some (.int .i64 0) := (blk_cell BK395.out 4).trans rfl; have hfz79_0 := blk_frozen BK395.out 0; have hfz79_1 := blk_frozen BK395.out 1; have hfz79_2 := blk_frozen BK395.out 2; have hfz79_3 := blk_frozen BK395.out 3; have hfz79_4 := blk_frozen BK395.out 4) | ((with_reducible refine gate_store (t := 59) (p := 15) rfl ?_); refine store_event (t := 59) (p := 15) (v := ?vo_w80) (w1 := (((((w75.setCell ⟨gb395, 0, none⟩ (.int .i64 ((rd_T59 l0 x49_2).f0))).setCell ⟨gb395, 1, none⟩ (.int .i64 ((rd_T59 l0 x49_2).f1))).setCell ⟨gb395, 2, none⟩ (.int .i64 ((rd_T59 l0 x49_2).f2))).setCell ⟨gb395, 3, none⟩ (.int .i64 ((rd_T59 l0 x49_2).f3))).setCell ⟨gb395, 4, none⟩ (.int .i64 ((rd_T59 l0 x49_2).f4)))) ?hg ?ho ?hn ?hr ?_; (case ho => rfl); (case hg => rfl); (case hn => rfl); (case hr => first | (go_simp; done) | (go_simp; rfl)); intro w80 hw; have n0_ : Aside0 (Kd.R (Kd.int .i64) 3 w80 w.heap.size (fun k_ => some k_ ≠ (u13 : Value).ownBlock) v384 x7_1) := ⟨(by rw [hw]; exact (by (with_reducible repeat (first | apply Kd.R_alloc | apply Kd.R_drewN | apply Kd.R_drew)); exact Kd.R_mono (Kd.R_far (p := ⟨gb395, 4, none⟩) (Kd.R_far (p := ⟨gb395, 3, none⟩) (Kd.R_far (p := ⟨gb395, 2, none⟩) (Kd.R_far (p := ⟨gb395, 1, none⟩) (Kd.R_far (p := ⟨gb395, 0, none⟩) (Kd.R_types HO_7.out BK395.out (by decide)) (fun _ hk => hk.2) (.int .i64 ((rd_T59 l0 x49_2).f0))) (fun _ hk => hk.2) (.int .i64 ((rd_T59 l0 x49_2).f1))) (fun _ hk => hk.2) (.int .i64 ((rd_T59 l0 x49_2).f2))) (fun _ hk => hk.2) (.int .i64 ((rd_T59 l0 x49_2).f3))) (fun _ hk => hk.2) (.int .i64 ((rd_T59 l0 x49_2).f4))) (fun _ hk => hk.1)))⟩; have n1_ : Aside0 (Kd.R k59 59 w80 w.heap.size (fun k_ => k_ ≠ gb389 ∧ k_ ≠ gb395) u12 x12_2) := ⟨(by rw [hw]; exact (by (with_reducible repeat (first | apply Kd.R_alloc | apply Kd.R_drewN | apply Kd.R_drew)); exact Kd.R_mono (Kd.R_far (p := ⟨gb395, 4, none⟩) (Kd.R_far (p := ⟨gb395, 3, none⟩) (Kd.R_far (p := ⟨gb395, 2, none⟩) (Kd.R_far (p := ⟨gb395, 1, none⟩) (Kd.R_far (p := ⟨gb395, 0, none⟩) (Kd.R_mono HO_12.out (fun k_ hk => (⟨hk, hk.2⟩ : _ ∧ k_ ≠ gb395))) (fun _ hk => hk.2) (.int .i64 ((rd_T59 l0 x49_2).f0))) (fun _ hk => hk.2) (.int .i64 ((rd_T59 l0 x49_2).f1))) (fun _ hk => hk.2) (.int .i64 ((rd_T59 l0 x49_2).f2))) (fun _ hk => hk.2) (.int .i64 ((rd_T59 l0 x49_2).f3))) (fun _ hk => hk.2) (.int .i64 ((rd_T59 l0 x49_2).f4))) (fun _ hk => ⟨hk.1.1, hk.1.2⟩)))⟩; have n2_ : Aside0 (Kd.R (Kd.int .i64) 3 w80 w.heap.size (fun k_ => some k_ ≠ (v384 : Value).ownBlock) u13 x13_2) := ⟨(by rw [hw]; exact (by (with_reducible repeat (first | apply Kd.R_alloc | apply Kd.R_drewN | apply Kd.R_drew)); exact Kd.R_mono (Kd.R_far (p := ⟨gb395, 4, none⟩) (Kd.R_far (p := ⟨gb395, 3, none⟩) (Kd.R_far (p := ⟨gb395, 2, none⟩) (Kd.R_far (p := ⟨gb395, 1, none⟩) (Kd.R_far (p := ⟨gb395, 0, none⟩) (Kd.R_types HO_13.out BK395.out (by decide)) (fun _ hk => hk.2) (.int .i64 ((rd_T59 l0 x49_2).f0))) (fun _ hk => hk.2) (.int .i64 ((rd_T59 l0 x49_2).f1))) (fun _ hk => hk.2) (.int .i64 ((rd_T59 l0 x49_2).f2))) (fun _ hk => hk.2) (.int .i64 ((rd_T59 l0 x49_2).f3))) (fun _ hk => hk.2) (.int .i64 ((rd_T59 l0 x49_2).f4))) (fun _ hk => hk.1)))⟩; have n3_ : Aside0 (w80.heap[gb389]? = some (.cells #[.int .i64 ((rd_T59 l0 x33_1).f0), .int .i64 ((rd_T59 l0 x33_1).f1), .int .i64 ((rd_T59 l0 x33_1).f2), .int .i64 ((rd_T59 l0 x33_1).f3), .int .i64 ((rd_T59 l0 x33_1).f4)] 59 (0, 0))) := ⟨(by rw [hw]; exact (by (with_reducible repeat (first | refine blk_drewN ?_ _ | refine blk_drew ?_ | refine blk_alloc ?_ _)); refine blk_far ?_ NB389_395.out _; (with_reducible repeat (first | refine blk_drewN ?_ _ | refine blk_drew ?_ | refine blk_alloc ?_ _)); refine blk_far ?_ NB389_395.out _; (with_reducible repeat (first | refine blk_drewN ?_ _ | refine blk_drew ?_ | refine blk_alloc ?_ _)); refine blk_far ?_ NB389_395.out _; (with_reducible repeat (first | refine blk_drewN ?_ _ | refine blk_drew ?_ | refine blk_alloc ?_ _)); refine blk_far ?_ NB389_395.out _; (with_reducible repeat (first | refine blk_drewN ?_ _ | refine blk_drew ?_ | refine blk_alloc ?_ _)); refine blk_far ?_ NB389_395.out _; (with_reducible repeat (first | refine blk_drewN ?_ _ | refine blk_drew ?_ | refine blk_alloc ?_ _)); exact BK389.out))⟩; have n4_ : Aside0 (w80.heap[gb390]? = some (.cells #[.int .i64 ((rd_T59 l0 x33_1).f1), .int .i64 ((rd_T59 l0 x33_1).f2)] 88 (0, 0))) := ⟨(by rw [hw]; exact (by (with_reducible repeat (first | refine blk_drewN ?_ _ | refine blk_drew ?_ | refine blk_alloc ?_ _)); refine blk_far ?_ NB390_395.out _; (with_reducible repeat (first | refine blk_drewN ?_ _ | refine blk_drew ?_ | refine blk_alloc ?_ _)); refine blk_far ?_ NB390_395.out _; (with_reducible repeat (first | refine blk_drewN ?_ _ | refine blk_drew ?_ | refine blk_alloc ?_ _)); refine blk_far ?_ NB390_395.out _; (with_reducible repeat (first | refine blk_drewN ?_ _ | refine blk_drew ?_ | refine blk_alloc ?_ _)); refine blk_far ?_ NB390_395.out _; (with_reducible repeat (first | refine blk_drewN ?_ _ | refine blk_drew ?_ | refine blk_alloc ?_ _)); refine blk_far ?_ NB390_395.out _; (with_reducible repeat (first | refine blk_drewN ?_ _ | refine blk_drew ?_ | refine blk_alloc ?_ _)); exact BK390.out))⟩; have n5_ : Aside0 (w80.heap[gb395]? = some (.cells #[.int .i64 ((rd_T59 l0 x49_2).f0), .int .i64 ((rd_T59 l0 x49_2).f1), .int .i64 ((rd_T59 l0 x49_2).f2), .int .i64 ((rd_T59 l0 x49_2).f3), .int .i64 ((rd_T59 l0 x49_2).f4)] 59 (0, 0))) := ⟨(by rw [hw]; exact (by (with_reducible repeat (first | refine blk_drewN ?_ _ | refine blk_drew ?_ | refine blk_alloc ?_ _)); refine blk_put (cs := #[.int .i64 ((rd_T59 l0 x49_2).f0), .int .i64 ((rd_T59 l0 x49_2).f1), .int .i64 ((rd_T59 l0 x49_2).f2), .int .i64 ((rd_T59 l0 x49_2).f3), .int .i64 0]) ?_ 4 _ rfl; (with_reducible repeat (first | refine blk_drewN ?_ _ | refine blk_drew ?_ | refine blk_alloc ?_ _)); refine blk_put (cs := #[.int .i64 ((rd_T59 l0 x49_2).f0), .int .i64 ((rd_T59 l0 x49_2).f1), .int .i64 ((rd_T59 l0 x49_2).f2), .int .i64 0, .int .i64 0]) ?_ 3 _ rfl; (with_reducible repeat (first | refine blk_drewN ?_ _ | refine blk_drew ?_ | refine blk_alloc ?_ _)); refine blk_put (cs := #[.int .i64 ((rd_T59 l0 x49_2).f0), .int .i64 ((rd_T59 l0 x49_2).f1), .int .i64 0, .int .i64 0, .int .i64 0]) ?_ 2 _ rfl; (with_reducible repeat (first | refine blk_drewN ?_ _ | refine blk_drew ?_ | refine blk_alloc ?_ _)); refine blk_put (cs := #[.int .i64 ((rd_T59 l0 x49_2).f0), .int .i64 0, .int .i64 0, .int .i64 0, .int .i64 0]) ?_ 1 _ rfl; (with_reducible repeat (first | refine blk_drewN ?_ _ | refine blk_drew ?_ | refine blk_alloc ?_ _)); refine blk_put (cs := #[.int .i64 0, .int .i64 0, .int .i64 0, .int .i64 0, .int .i64 0]) ?_ 0 _ rfl; (with_reducible repeat (first | refine blk_drewN ?_ _ | refine blk_drew ?_ | refine blk_alloc ?_ _)); exact BK395.out))⟩; have n6_ : Aside0 (IsS86 w w80 g387 t393) := ⟨(by rw [hw]; exact (by repeat (first | (with_reducible first | exact HI387.out | apply IsS86.alloc | apply IsS86.drewN | apply IsS86.drew | apply IsS86.set_0 | refine IsS86.far ?_ NB387_389.out _ | refine IsS86.far ?_ NB387_390.out _ | refine IsS86.far ?_ NB387_395.out _) | exact HI387.out)))⟩; have n7_ : Aside0 (Below w.heap.size w w80) := ⟨(by rw [hw]; exact (by repeat (first | (with_reducible first | exact HB.out | apply below_alloc | apply pw_below_drewN | apply below_drew1 | refine below_set ?_ (IsS86.ge HI387.out) | refine below_set ?_ GE389.out | refine below_set ?_ GE390.out | refine below_set ?_ GE395.out) | exact HB.out)))⟩; clear hw; clear HO_7; clear HO_12; clear HO_13; clear BK389; clear BK390; clear BK395; clear HI387; clear HB; have HO_7 := n0_; have HO_12 := n1_; have HO_13 := n2_; have BK389 := n3_; have BK390 := n4_; have BK395 := n5_; have HI387 := n6_; have HB := n7_; clear n0_ n1_ n2_ n3_ n4_ n5_ n6_ n7_; have hcz81_0 : w80.cell? ⟨gb395, 0, none⟩ = some (.int .i64 ((rd_T59 l0 x49_2).f0)) := (blk_cell BK395.out 0).trans rfl; have hcz81_1 : w80.cell? ⟨gb395, 1, none⟩ = some (.int .i64 ((rd_T59 l0 x49_2).f1)) := (blk_cell BK395.out 1).trans rfl; have hcz81_2 : w80.cell? ⟨gb395, 2, none⟩ = some (.int .i64 ((rd_T59 l0 x49_2).f2)) := (blk_cell BK395.out 2).trans rfl; have hcz81_3 : w80.cell? ⟨gb395, 3, none⟩ = some (.int .i64 ((rd_T59 l0 x49_2).f3)) := (blk_cell BK395.out 3).trans rfl; have hcz81_4 : w80.cell? ⟨gb395, 4, none⟩ = some (.int .i64 ((rd_T59 l0 x49_2).f4)) := (blk_cell BK395.out 4).trans rfl; have hfz81_0 := blk_frozen BK395.out 0; have hfz81_1 := blk_frozen BK395.out 1; have hfz81_2 := blk_frozen BK395.out 2; have hfz81_3 := blk_frozen BK395.out 3; have hfz81_4 := blk_frozen BK395.out 4; have hnb82 := NB389_390.out; have hnc82 := NB390_389.out; have hnb83 := NB389_387.out; have hnc83 := NB387_389.out; have hcz84_0 : w80.cell? ⟨gb389, 0, none⟩ = some (.int .i64 ((rd_T59 l0 x33_1).f0)) := (blk_cell BK389.out 0).trans rfl; have hcz84_1 : w80.cell? ⟨gb389, 1, none⟩ = some (.int .i64 ((rd_T59 l0 x33_1).f1)) := (blk_cell BK389.out 1).trans rfl; have hcz84_2 : w80.cell? ⟨gb389, 2, none⟩ = some (.int .i64 ((rd_T59 l0 x33_1).f2)) := (blk_cell BK389.out 2).trans rfl; have hcz84_3 : w80.cell? ⟨gb389, 3, none⟩ = some (.int .i64 ((rd_T59 l0 x33_1).f3)) := (blk_cell BK389.out 3).trans rfl; have hcz84_4 : w80.cell? ⟨gb389, 4, none⟩ = some (.int .i64 ((rd_T59 l0 x33_1).f4)) := (blk_cell BK389.out 4).trans rfl; have hfz84_0 := blk_frozen BK389.out 0; have hfz84_1 := blk_frozen BK389.out 1; have hfz84_2 := blk_frozen BK389.out 2; have hfz84_3 := blk_frozen BK389.out 3; have hfz84_4 := blk_frozen BK389.out 4))
                 go_roundg k2
                 case measure => have := HK1.out; have := HK2.out; omega
                 case rel => exact ⟨(x12_2), (x13_2), (wrap64 (x49_2 + 1)), (by first | rfl | (simp; done) | (simp [*]; done)), H', ⟨by have := HK1.out; have := HK2.out; omega⟩, ⟨by (with_reducible repeat (first | apply Kd.R_alloc | apply Kd.R_drewN | apply Kd.R_drew)); exact HO_7.out⟩, ⟨by (with_reducible repeat (first | apply Kd.R_alloc | apply Kd.R_drewN | apply Kd.R_drew)); exact Kd.R_mono HO_12.out (fun _ hk => hk.1)⟩, ⟨by (with_reducible repeat (first | apply Kd.R_alloc | apply Kd.R_drewN | apply Kd.R_drew)); exact HO_13.out⟩, ⟨by (with_reducible repeat (first | refine blk_drewN ?_ _ | refine blk_drew ?_ | refine blk_alloc ?_ _)); exact BK389.out⟩, ⟨by (with_reducible repeat (first | refine blk_drewN ?_ _ | refine blk_drew ?_ | refine blk_alloc ?_ _)); exact BK390.out⟩, ⟨by repeat (first | (with_reducible first | exact HI387.out | apply IsS86.alloc | apply IsS86.drewN | apply IsS86.drew | apply IsS86.set_0 | refine IsS86.far ?_ NB387_389.out _ | refine IsS86.far ?_ NB387_390.out _ | refine IsS86.far ?_ NB387_395.out _) | exact HI387.out)⟩, ⟨by repeat (first | (with_reducible first | exact HB.out | apply below_alloc | apply pw_below_drewN | apply below_drew1 | refine below_set ?_ (IsS86.ge HI387.out) | refine below_set ?_ GE389.out | refine below_set ?_ GE390.out | refine below_set ?_ GE395.out) | exact HB.out)⟩⟩
               ·rw [if_neg c48] at H
                exact absurd H (by simp)
              ·rw [if_neg c47] at H
               exact absurd H (by simp)
             ·rw [if_neg c46] at H
              have c46b0 : decide (x49_2 < (l0.length : Int)) = false := decide_eq_false c46
              clear c46
              replace H := Option.bind_eq_some_iff.mp H
              obtain ⟨⟨t402, t403⟩, A850, H⟩ := H
              replace H : (if t403 = 0 then (cap_Ceiling.l2 k2 l0 a1 x7_1 x13_2 l0 (l0.length : Int) x33_1 t402 (t402.length : Int) 0 t393) else (some (([] : List Int), t403))) = some (r1, r2) := H
              have A85 := Aside0.mk A850
              clear A850
              by_cases c86 : t403 = 0
              ·rw [if_pos c86] at H
               have c86b0 : (t403 == 0) = true := beq_iff_eq.mpr c86
               have c86b1 : (t403 != 0) = false := bne_eq_false_iff_eq.mpr c86
               clear c86
               have H' := Aside0.mk H
               clear H
               obtain ⟨Ao87, co87, eo87⟩ := Kd.R_slice HO_12.out
               subst eo87
               go_wp2_with (first | ((with_reducible refine gate_callee (f := 33) rfl ?_); refine goesL_ (some 78) rfl rfl Try.func33 (by kernel_rfl) rfl #[.slice Ao87 x12_2.length co87, .int .i64 a1] rfl (by (try simp only [List.map_toArray, List.map_cons, List.map_nil]); first | done | rfl | (simp only [List.length_drop, List.length_take]; rfl)) ?_; (with_reducible refine (cap_Budget.calls k2 _ _ x12_2 a1 t402 t403 _ ?side1 ?side2 A85.out).mono ?_); (case side1 => repeat (first | exact (Kd.R_reads' HO_12.out).2.2 | (with_reducible refine Kd.C_alloc ?_ _) | (with_reducible refine Kd.C_drewN ?_ _) | (with_reducible refine Kd.C_drew ?_))); (case side2 => exact (Kd.R_reads' HO_12.out).2.1); rintro e w88 ⟨v404, rfl, ho0, hb⟩; refine ⟨_, rfl, ?_⟩; have n0_ := Aside0.mk (Kd.R_elder' (by (with_reducible repeat (first | apply Kd.R_alloc | apply Kd.R_drewN | apply Kd.R_drew)); exact HO_7.out) (Kd.R_base ho0) hb); have n1_ := Aside0.mk (Kd.R_below (by (with_reducible repeat (first | apply Kd.R_alloc | apply Kd.R_drewN | apply Kd.R_drew)); exact HO_12.out) hb); have n2_ := Aside0.mk (Kd.R_elder' (by (with_reducible repeat (first | apply Kd.R_alloc | apply Kd.R_drewN | apply Kd.R_drew)); exact HO_13.out) (Kd.R_base ho0) hb); have n3_ := Aside0.mk (Kd.R_lower (Kd.R_new' (Kd.R_new' ho0 (Kd.R_lt (by (with_reducible repeat (first | apply Kd.R_alloc | apply Kd.R_drewN | apply Kd.R_drew)); exact HO_7.out))) (Kd.R_lt (by (with_reducible repeat (first | apply Kd.R_alloc | apply Kd.R_drewN | apply Kd.R_drew)); exact HO_13.out))) (below_size (by repeat (first | (with_reducible first | exact HB.out | apply below_alloc | apply pw_below_drewN | apply below_drew1 | refine below_set ?_ (IsS86.ge HI387.out) | refine below_set ?_ GE389.out | refine below_set ?_ GE390.out) | exact HB.out)))); have n4_ := Aside0.mk (blk_below (g := gb389) (o := .cells #[.int .i64 ((rd_T59 l0 x33_1).f0), .int .i64 ((rd_T59 l0 x33_1).f1), .int .i64 ((rd_T59 l0 x33_1).f2), .int .i64 ((rd_T59 l0 x33_1).f3), .int .i64 ((rd_T59 l0 x33_1).f4)] 59 (0, 0)) (by (with_reducible repeat (first | refine blk_drewN ?_ _ | refine blk_drew ?_ | refine blk_alloc ?_ _)); exact BK389.out) hb); have n5_ := Aside0.mk (blk_below (g := gb390) (o := .cells #[.int .i64 ((rd_T59 l0 x33_1).f1), .int .i64 ((rd_T59 l0 x33_1).f2)] 88 (0, 0)) (by (with_reducible repeat (first | refine blk_drewN ?_ _ | refine blk_drew ?_ | refine blk_alloc ?_ _)); exact BK390.out) hb); have n6_ := Aside0.mk (IsS86.below (by repeat (first | (with_reducible first | exact HI387.out | apply IsS86.alloc | apply IsS86.drewN | apply IsS86.drew | apply IsS86.set_0 | refine IsS86.far ?_ NB387_389.out _ | refine IsS86.far ?_ NB387_390.out _) | exact HI387.out)) hb); have n7_ := Aside0.mk (below_step (by repeat (first | (with_reducible first | exact HB.out | apply below_alloc | apply pw_below_drewN | apply below_drew1 | refine below_set ?_ (IsS86.ge HI387.out) | refine below_set ?_ GE389.out | refine below_set ?_ GE390.out) | exact HB.out)) hb); clear HO_7; clear HO_12; clear HO_13; clear BK389; clear BK390; clear HI387; clear HB; have HO_7 := n0_; have HO_12 := n1_; have HO_13 := n2_; have HO405 := n3_; have BK389 := n4_; have BK390 := n5_; have HI387 := n6_; have HB := n7_; clear n0_ n1_ n2_ n3_ n4_ n5_ n6_ n7_; (try clear hb); (try clear hb2); (try clear hk); (try clear hi); (try clear ho0); obtain ⟨Ao89, co89, eo89⟩ := Kd.R_slice HO405.out; subst eo89))
               go_loopg [86] k2 (fun kq v86 w' => ∃ (x7_3 : List Int) (x86_3 : Int), v86 = .int .i64 x86_3 ∧ Aside0 (cap_Ceiling.l2 kq l0 a1 x7_3 x13_2 l0 (l0.length : Int) x33_1 t402 (t402.length : Int) x86_3 t393 = some (r1, r2)) ∧ Aside0 (kq ≤ k2) ∧ Aside0 (Kd.R (Kd.int .i64) 3 w' w.heap.size (fun k_ => some k_ ≠ (u13 : Value).ownBlock ∧ some k_ ≠ ((.slice Ao89 t402.length co89) : Value).ownBlock) v384 x7_3) ∧ Aside0 (Kd.R (Kd.int .i64) 3 w' w.heap.size (fun k_ => some k_ ≠ (v384 : Value).ownBlock ∧ some k_ ≠ ((.slice Ao89 t402.length co89) : Value).ownBlock) u13 x13_2) ∧ Aside0 (Kd.R (Kd.int .i64) 3 w' w.heap.size (fun k_ => some k_ ≠ (v384 : Value).ownBlock ∧ some k_ ≠ (u13 : Value).ownBlock) (.slice Ao89 t402.length co89) t402) ∧ Aside0 (w'.heap[gb389]? = some (.cells #[.int .i64 ((rd_T59 l0 x33_1).f0), .int .i64 ((rd_T59 l0 x33_1).f1), .int .i64 ((rd_T59 l0 x33_1).f2), .int .i64 ((rd_T59 l0 x33_1).f3), .int .i64 ((rd_T59 l0 x33_1).f4)] 59 (0, 0))) ∧ Aside0 (w'.heap[gb390]? = some (.cells #[.int .i64 ((rd_T59 l0 x33_1).f1), .int .i64 ((rd_T59 l0 x33_1).f2)] 88 (0, 0))) ∧ Aside0 (IsS86 w w' g387 t393) ∧ Aside0 (Below w.heap.size w w'))
               case atStart => exact ⟨(x7_1), (0), (by first | rfl | (simp; done) | (simp [*]; done)), H', ⟨Nat.le_refl _⟩, ⟨by (with_reducible repeat (first | apply Kd.R_alloc | apply Kd.R_drewN | apply Kd.R_drew)); exact HO_7.out⟩, ⟨by (with_reducible repeat (first | apply Kd.R_alloc | apply Kd.R_drewN | apply Kd.R_drew)); exact HO_13.out⟩, ⟨by (with_reducible repeat (first | apply Kd.R_alloc | apply Kd.R_drewN | apply Kd.R_drew)); exact Kd.R_mono HO405.out (fun _ hk => ⟨hk.1.2, hk.2⟩)⟩, ⟨by (with_reducible repeat (first | refine blk_drewN ?_ _ | refine blk_drew ?_ | refine blk_alloc ?_ _)); exact BK389.out⟩, ⟨by (with_reducible repeat (first | refine blk_drewN ?_ _ | refine blk_drew ?_ | refine blk_alloc ?_ _)); exact BK390.out⟩, ⟨by repeat (first | (with_reducible first | exact HI387.out | apply IsS86.alloc | apply IsS86.drewN | apply IsS86.drew | apply IsS86.set_0 | refine IsS86.far ?_ NB387_389.out _ | refine IsS86.far ?_ NB387_390.out _) | exact HI387.out)⟩, ⟨by repeat (first | (with_reducible first | exact HB.out | apply below_alloc | apply pw_below_drewN | apply below_drew1 | refine below_set ?_ (IsS86.ge HI387.out) | refine below_set ?_ GE389.out | refine below_set ?_ GE390.out) | exact HB.out)⟩⟩
               case round =>
                clear H'
                try clear c1
                try clear c2
                try clear p2
                try clear c3
                try clear p3
                try clear q3
                try clear hx3
                try clear c4
                try clear c4b0
                try clear c4b1
                try clear c5
                try clear c5b0
                try clear c6
                try clear p6
                try clear c7
                try clear c7b0
                try clear c7b1
                try clear c8
                try clear c8b0
                try clear c8b1
                try clear c14
                try clear c14b0
                try clear c15
                try clear c15b0
                try clear c16
                try clear c16b0
                try clear c18
                try clear c20
                try clear c25
                try clear c26
                try clear c33
                try clear c35
                try clear c38
                try clear p38
                try clear q38
                try clear hx38
                try clear c39
                try clear p39
                try clear q39
                try clear hx39
                try clear c46
                try clear c46b0
                try clear c47
                try clear c47b0
                try clear c48
                try clear c48b0
                try clear c49
                try clear c49b0
                try clear c49b1
                try clear c50
                try clear c50b0
                try clear c50b1
                try clear c51
                try clear c52
                try clear c54
                try clear c55
                try clear c56
                try clear c60
                try clear c61
                try clear p64
                try clear c66
                try clear c67
                try clear c68
                try clear c72
                try clear c73
                try clear c76
                try clear c77
                try clear c78
                try clear c82
                try clear c83
                try clear c86
                try clear c86b0
                try clear c86b1
                try clear hcz21_0
                try clear hcz21_1
                try clear hcz21_2
                try clear hcz21_3
                try clear hcz21_4
                try clear hcz23_0
                try clear hcz23_1
                try clear hcz23_2
                try clear hcz23_3
                try clear hcz23_4
                try clear hcz27_0
                try clear hcz27_1
                try clear hcz29_0
                try clear hcz29_1
                try clear hcz34_0
                try clear hcz34_1
                try clear hcz34_2
                try clear hcz34_3
                try clear hcz34_4
                try clear hcz36_0
                try clear hcz36_1
                try clear hcz36_2
                try clear hcz36_3
                try clear hcz36_4
                try clear hcz40_0
                try clear hcz40_1
                try clear hcz42_0
                try clear hcz42_1
                try clear hcz44_0
                try clear hcz44_1
                try clear hcz57_0
                try clear hcz57_1
                try clear hcz57_2
                try clear hcz57_3
                try clear hcz57_4
                try clear hcz59_0
                try clear hcz59_1
                try clear hcz59_2
                try clear hcz59_3
                try clear hcz59_4
                try clear hcz62_0
                try clear hcz62_1
                try clear hcz62_2
                try clear hcz62_3
                try clear hcz62_4
                try clear hcz69_0
                try clear hcz69_1
                try clear hcz69_2
                try clear hcz69_3
                try clear hcz69_4
                try clear hcz71_0
                try clear hcz71_1
                try clear hcz71_2
                try clear hcz71_3
                try clear hcz71_4
                try clear hcz74_0
                try clear hcz74_1
                try clear hcz74_2
                try clear hcz74_3
                try clear hcz74_4
                try clear hcz79_0
                try clear hcz79_1
                try clear hcz79_2
                try clear hcz79_3
                try clear hcz79_4
                try clear hcz81_0
                try clear hcz81_1
                try clear hcz81_2
                try clear hcz81_3
                try clear hcz81_4
                try clear hcz84_0
                try clear hcz84_1
                try clear hcz84_2
                try clear hcz84_3
                try clear hcz84_4
                try clear hfz21_0
                try clear hfz21_1
                try clear hfz21_2
                try clear hfz21_3
                try clear hfz21_4
                try clear hfz23_0
                try clear hfz23_1
                try clear hfz23_2
                try clear hfz23_3
                try clear hfz23_4
                try clear hfz27_0
                try clear hfz27_1
                try clear hfz29_0
                try clear hfz29_1
                try clear hfz34_0
                try clear hfz34_1
                try clear hfz34_2
                try clear hfz34_3
                try clear hfz34_4
                try clear hfz36_0
                try clear hfz36_1
                try clear hfz36_2
                try clear hfz36_3
                try clear hfz36_4
                try clear hfz40_0
                try clear hfz40_1
                try clear hfz42_0
                try clear hfz42_1
                try clear hfz44_0
                try clear hfz44_1
                try clear hfz57_0
                try clear hfz57_1
                try clear hfz57_2
                try clear hfz57_3
                try clear hfz57_4
                try clear hfz59_0
                try clear hfz59_1
                try clear hfz59_2
                try clear hfz59_3
                try clear hfz59_4
                try clear hfz62_0
                try clear hfz62_1
                try clear hfz62_2
                try clear hfz62_3
                try clear hfz62_4
                try clear hfz69_0
                try clear hfz69_1
                try clear hfz69_2
                try clear hfz69_3
                try clear hfz69_4
                try clear hfz71_0
                try clear hfz71_1
                try clear hfz71_2
                try clear hfz71_3
                try clear hfz71_4
                try clear hfz74_0
                try clear hfz74_1
                try clear hfz74_2
                try clear hfz74_3
                try clear hfz74_4
                try clear hfz79_0
                try clear hfz79_1
                try clear hfz79_2
                try clear hfz79_3
                try clear hfz79_4
                try clear hfz81_0
                try clear hfz81_1
                try clear hfz81_2
                try clear hfz81_3
                try clear hfz81_4
                try clear hfz84_0
                try clear hfz84_1
                try clear hfz84_2
                try clear hfz84_3
                try clear hfz84_4
                try clear hx388_0
                try clear hx388_1
                try clear hx388_2
                try clear hx388_3
                try clear hx388_4
                try clear hx394_0
                try clear hx394_1
                try clear hx394_2
                try clear hx394_3
                try clear hx394_4
                try clear p2
                try clear p3
                try clear p38
                try clear p388
                try clear p394
                try clear p6
                try clear q3
                try clear q38
                try clear q388
                try clear q394
                obtain ⟨x7_3, x86_3, rfl, HA, HK3, HO_7, HO_13, HO_84, BK389, BK390, HI387, HB⟩ := hrel
                cases gk with
                | zero => exact absurd HA.out (by simp [cap_Ceiling.l2])
                | succ k3 =>
                 have H := HA.out
                 clear HA
                 simp only [cap_Ceiling.l2] at H
                 by_cases c90 : x86_3 < (t402.length : Int)
                 ·rw [if_pos c90] at H
                  have c90b0 : decide (x86_3 < (t402.length : Int)) = true := decide_eq_true c90
                  clear c90
                  by_cases c91 : 0 ≤ x86_3
                  ·rw [if_pos c91] at H
                   have c91b0 : decide (0 ≤ x86_3) = true := decide_eq_true c91
                   clear c91
                   by_cases c92 : x86_3 < (t402.length : Int)
                   ·rw [if_pos c92] at H
                    have c92b0 : decide (x86_3 < (t402.length : Int)) = true := decide_eq_true c92
                    clear c92
                    by_cases c93 : x86_3 < (x13_2.length : Int)
                    ·rw [if_pos c93] at H
                     have c93b0 : decide (x86_3 < (x13_2.length : Int)) = true := decide_eq_true c93
                     clear c93
                     by_cases c94 : 0 ≤ (rd x13_2 x86_3)
                     ·rw [if_pos c94] at H
                      have c94b0 : decide (0 ≤ (rd x13_2 x86_3)) = true := decide_eq_true c94
                      clear c94
                      by_cases c95 : (rd x13_2 x86_3) < (x7_3.length : Int)
                      ·rw [if_pos c95] at H
                       have c95b0 : decide ((rd x13_2 x86_3) < (x7_3.length : Int)) = true := decide_eq_true c95
                       clear c95
                       obtain ⟨y408, hy408⟩ : ∃ y_ : List Int, y_ = (x7_3.set ((rd x13_2 x86_3) : Int).toNat (rd t402 x86_3)) := ⟨_, rfl⟩
                       replace H : (cap_Ceiling.l2 k3 l0 a1 y408 x13_2 l0 (l0.length : Int) x33_1 t402 (t402.length : Int) (wrap64 (x86_3 + 1)) t393) = some (r1, r2) := by first | (rw [hy408]; with_reducible exact H) | (have H2_ := (Option.bind_some _ _).symm.trans H; rw [hy408]; with_reducible exact H2_) | (have H2_ := (Option.bind_some _ _).symm.trans H; with_reducible exact H2_) | with_reducible exact H | (rw [hy408]; exact H) | exact H
                       have Ny408 := Aside0.mk hy408
                       clear hy408
                       have H' := Aside0.mk H
                       clear H
                       have p406 : 0 ≤ (x86_3 : Int) := of_decide_eq_true (by first | (with_reducible assumption) | assumption)
                       have q406 : x86_3 < (t402.length : Int) := of_decide_eq_true (by first | (with_reducible assumption) | assumption)
                       obtain ⟨ad406, e406, hx406_0⟩ := Kd.at_int (Kd.R_reads' HO_84.out).2.2 x86_3 p406 q406
                       cases e406
                       replace p406 := eq_true p406
                       replace q406 := eq_true q406
                       obtain ⟨Ao97, co97, eo97⟩ := Kd.R_slice HO_13.out
                       subst eo97
                       have p407 : 0 ≤ (x86_3 : Int) := of_decide_eq_true (by first | (with_reducible assumption) | assumption)
                       have q407 : x86_3 < (x13_2.length : Int) := of_decide_eq_true (by first | (with_reducible assumption) | assumption)
                       obtain ⟨ad407, e407, hx407_0⟩ := Kd.at_int (Kd.R_reads' HO_13.out).2.2 x86_3 p407 q407
                       cases e407
                       replace p407 := eq_true p407
                       replace q407 := eq_true q407
                       have p96 : 0 ≤ ((rd x13_2 x86_3) : Int) := of_decide_eq_true (by first | (with_reducible assumption) | assumption)
                       have q96 : ((rd x13_2 x86_3) : Int) < ((x7_3.length : Int) : Int) := of_decide_eq_true (by first | (with_reducible assumption) | assumption)
                       obtain ⟨go96, co96, eo96, gb96, gl96, cl96, HG96⟩ := Kd.R_form HO_7.out (by omega)
                       (first | cases eo96 | (injection eo96 with ea_ en_ ec_; (first | subst ea_ | (injection ea_ with ea_; subst ea_)); subst ec_; clear en_))
                       have GB96 := Aside0.mk gb96
                       have GG96 := Aside0.mk HG96
                       clear gb96 gl96 HG96
                       obtain ⟨hx96_0, hf96_0⟩ := Kd.R_celln 0 HO_7.out ((rd x13_2 x86_3) : Int) p96 q96
                       replace p96 := eq_true p96
                       replace q96 := eq_true q96
                       have HP98 := Kd.R_putg HO_7.out ((rd x13_2 x86_3) : Int) (rd t402 x86_3)
                       go_wp2_with (first | ((with_reducible refine gate_store (t := 3) (p := 97) rfl ?_); refine store_event (t := 3) (p := 97) (v := ?vo_w99) (w1 := (wr.setCell ⟨go96, ((rd x13_2 x86_3) : Int).toNat, none⟩ (.int .i64 (rd t402 x86_3)))) ?hg ?ho ?hn ?hr ?_; (case ho => rfl); (case hg => rfl); (case hn => rfl); (case hr => first | (go_simp; done) | (go_simp; rfl)); intro w99 hw; have hg : wr.grownBy w99 (some go96) := (by rw [hw]; exact HP98.2); have hp_ : Kd.R (Kd.int .i64) 3 w99 w.heap.size (fun k_ => some k_ ≠ (.slice (some ad407) x13_2.length co97 : Value).ownBlock ∧ some k_ ≠ (.slice (some ad406) t402.length co89 : Value).ownBlock) (.slice (some ⟨go96, 0, none⟩) x7_3.length co96) y408 := (by rw [hw, Ny408.out]; exact HP98.1); clear HP98; have n0_ := Aside0.mk (hp_); have n1_ := Aside0.mk (Kd.R_after (v := (.slice (some ⟨go96, 0, none⟩) x7_3.length co96)) (v1 := (.slice (some ⟨go96, 0, none⟩) x7_3.length co96)) (ok := (fun k_ => some k_ ≠ (.slice (some ad406) t402.length co89 : Value).ownBlock)) (by (with_reducible repeat (first | apply Kd.R_alloc | apply Kd.R_drewN | apply Kd.R_drew)); exact Kd.R_mono HO_13.out (fun _ hk => ⟨hk.2, hk.1⟩)) hg (.inl rfl)); have n2_ := Aside0.mk (Kd.R_after (v := (.slice (some ⟨go96, 0, none⟩) x7_3.length co96)) (v1 := (.slice (some ⟨go96, 0, none⟩) x7_3.length co96)) (ok := (fun k_ => some k_ ≠ (.slice (some ad407) x13_2.length co97 : Value).ownBlock)) (by (with_reducible repeat (first | apply Kd.R_alloc | apply Kd.R_drewN | apply Kd.R_drew)); exact Kd.R_mono HO_84.out (fun _ hk => ⟨hk.2, hk.1⟩)) hg (.inl rfl)); have n3_ := Aside0.mk (blk_grown (g := gb389) (o := .cells #[.int .i64 ((rd_T59 l0 x33_1).f0), .int .i64 ((rd_T59 l0 x33_1).f1), .int .i64 ((rd_T59 l0 x33_1).f2), .int .i64 ((rd_T59 l0 x33_1).f3), .int .i64 ((rd_T59 l0 x33_1).f4)] 59 (0, 0)) (by (with_reducible repeat (first | refine blk_drewN ?_ _ | refine blk_drew ?_ | refine blk_alloc ?_ _)); exact BK389.out) hg (Kd.R_ne HO_7.out BK389.out (by decide))); have n4_ := Aside0.mk (blk_grown (g := gb390) (o := .cells #[.int .i64 ((rd_T59 l0 x33_1).f1), .int .i64 ((rd_T59 l0 x33_1).f2)] 88 (0, 0)) (by (with_reducible repeat (first | refine blk_drewN ?_ _ | refine blk_drew ?_ | refine blk_alloc ?_ _)); exact BK390.out) hg (Kd.R_ne HO_7.out BK390.out (by decide))); have n5_ := Aside0.mk (IsS86.grown (by repeat (first | (with_reducible first | exact HI387.out | apply IsS86.alloc | apply IsS86.drewN | apply IsS86.drew | apply IsS86.set_0 | refine IsS86.far ?_ NB387_389.out _ | refine IsS86.far ?_ NB387_390.out _) | exact HI387.out)) hg (IsS86.own_ne HI387.out HO_7.out (by decide))); have n6_ := Aside0.mk ((by rw [hw]; exact below_set (HB.out) GB96.out : Below w.heap.size w w99)); clear HO_7; clear HO_13; clear HO_84; clear BK389; clear BK390; clear HI387; clear HB; have HO_7 := n0_; have HO_13 := n1_; have HO_84 := n2_; have BK389 := n3_; have BK390 := n4_; have HI387 := n5_; have HB := n6_; clear n0_ n1_ n2_ n3_ n4_ n5_ n6_; clear hg hw hp_))
                       go_roundg k3
                       case measure => have := HK1.out; have := HK2.out; have := HK3.out; omega
                       case rel => exact ⟨(y408), (wrap64 (x86_3 + 1)), (by first | rfl | (simp; done) | (simp [*]; done)), H', ⟨by have := HK1.out; have := HK2.out; have := HK3.out; omega⟩, ⟨by (with_reducible repeat (first | apply Kd.R_alloc | apply Kd.R_drewN | apply Kd.R_drew)); exact HO_7.out⟩, ⟨by (with_reducible repeat (first | apply Kd.R_alloc | apply Kd.R_drewN | apply Kd.R_drew)); exact Kd.R_mono HO_13.out (fun _ hk => ⟨hk.2, hk.1⟩)⟩, ⟨by (with_reducible repeat (first | apply Kd.R_alloc | apply Kd.R_drewN | apply Kd.R_drew)); exact Kd.R_mono HO_84.out (fun _ hk => ⟨hk.2, hk.1⟩)⟩, ⟨by (with_reducible repeat (first | refine blk_drewN ?_ _ | refine blk_drew ?_ | refine blk_alloc ?_ _)); exact BK389.out⟩, ⟨by (with_reducible repeat (first | refine blk_drewN ?_ _ | refine blk_drew ?_ | refine blk_alloc ?_ _)); exact BK390.out⟩, ⟨by repeat (first | (with_reducible first | exact HI387.out | apply IsS86.alloc | apply IsS86.drewN | apply IsS86.drew | apply IsS86.set_0 | refine IsS86.far ?_ NB387_389.out _ | refine IsS86.far ?_ NB387_390.out _) | exact HI387.out)⟩, ⟨by repeat (first | (with_reducible first | exact HB.out | apply below_alloc | apply pw_below_drewN | apply below_drew1 | refine below_set ?_ (IsS86.ge HI387.out) | refine below_set ?_ GE389.out | refine below_set ?_ GE390.out) | exact HB.out)⟩⟩
                      ·rw [if_neg c95] at H
                       exact absurd H (by simp)
                     ·rw [if_neg c94] at H
                      exact absurd H (by simp)
                    ·rw [if_neg c93] at H
                     exact absurd H (by simp)
                   ·rw [if_neg c92] at H
                    exact absurd H (by simp)
                  ·rw [if_neg c91] at H
                   exact absurd H (by simp)
                 ·rw [if_neg c90] at H
                  have c90b0 : decide (x86_3 < (t402.length : Int)) = false := decide_eq_false c90
                  clear c90
                  have H' := Aside0.mk H
                  clear H
                  go_wp2
                  go_roundg k3
                  case measure => have := HK1.out; have := HK2.out; have := HK3.out; omega
                  case rel => exact ⟨(x7_3), (wrap64 (x33_1 + 1)), (t393), (by first | rfl | (simp; done) | (simp [*]; done)), H', ⟨by have := HK1.out; have := HK2.out; have := HK3.out; omega⟩, ⟨by (with_reducible repeat (first | apply Kd.R_alloc | apply Kd.R_drewN | apply Kd.R_drew)); exact Kd.R_mono HO_7.out (fun _ hk => trivial)⟩, ⟨by repeat (first | (with_reducible first | exact HI387.out | apply IsS86.alloc | apply IsS86.drewN | apply IsS86.drew | apply IsS86.set_0 | refine IsS86.far ?_ NB387_389.out _ | refine IsS86.far ?_ NB387_390.out _) | exact HI387.out)⟩, ⟨by repeat (first | (with_reducible first | exact HB.out | apply below_alloc | apply pw_below_drewN | apply below_drew1 | refine below_set ?_ (IsS86.ge HI387.out) | refine below_set ?_ GE389.out | refine below_set ?_ GE390.out) | exact HB.out)⟩⟩
              ·rw [if_neg c86] at H
               have c86b0 : (t403 == 0) = false := beq_eq_false_iff_ne.mpr c86
               have c86b1 : (t403 != 0) = true := bne_iff_ne.mpr c86
               simp only [Option.some.injEq, Prod.mk.injEq] at H
               obtain ⟨rfl, rfl⟩ := H
               obtain ⟨Ao100, co100, eo100⟩ := Kd.R_slice HO_12.out
               subst eo100
               go_wp2_with (first | ((with_reducible refine gate_callee (f := 33) rfl ?_); refine goesL_ (some 78) rfl rfl Try.func33 (by kernel_rfl) rfl #[.slice Ao100 x12_2.length co100, .int .i64 a1] rfl (by (try simp only [List.map_toArray, List.map_cons, List.map_nil]); first | done | rfl | (simp only [List.length_drop, List.length_take]; rfl)) ?_; (with_reducible refine (cap_Budget.calls k2 _ _ x12_2 a1 t402 t403 _ ?side1 ?side2 A85.out).mono ?_); (case side1 => repeat (first | exact (Kd.R_reads' HO_12.out).2.2 | (with_reducible refine Kd.C_alloc ?_ _) | (with_reducible refine Kd.C_drewN ?_ _) | (with_reducible refine Kd.C_drew ?_))); (case side2 => exact (Kd.R_reads' HO_12.out).2.1); rintro e w101 ⟨v404, rfl, ho0, hb⟩; refine ⟨_, rfl, ?_⟩; have n0_ := Aside0.mk (Kd.R_elder' (by (with_reducible repeat (first | apply Kd.R_alloc | apply Kd.R_drewN | apply Kd.R_drew)); exact HO_7.out) (Kd.R_base ho0) hb); have n1_ := Aside0.mk (Kd.R_below (by (with_reducible repeat (first | apply Kd.R_alloc | apply Kd.R_drewN | apply Kd.R_drew)); exact HO_12.out) hb); have n2_ := Aside0.mk (Kd.R_elder' (by (with_reducible repeat (first | apply Kd.R_alloc | apply Kd.R_drewN | apply Kd.R_drew)); exact HO_13.out) (Kd.R_base ho0) hb); have n3_ := Aside0.mk (Kd.R_lower (Kd.R_new' (Kd.R_new' ho0 (Kd.R_lt (by (with_reducible repeat (first | apply Kd.R_alloc | apply Kd.R_drewN | apply Kd.R_drew)); exact HO_7.out))) (Kd.R_lt (by (with_reducible repeat (first | apply Kd.R_alloc | apply Kd.R_drewN | apply Kd.R_drew)); exact HO_13.out))) (below_size (by repeat (first | (with_reducible first | exact HB.out | apply below_alloc | apply pw_below_drewN | apply below_drew1 | refine below_set ?_ (IsS86.ge HI387.out) | refine below_set ?_ GE389.out | refine below_set ?_ GE390.out) | exact HB.out)))); have n4_ := Aside0.mk (blk_below (g := gb389) (o := .cells #[.int .i64 ((rd_T59 l0 x33_1).f0), .int .i64 ((rd_T59 l0 x33_1).f1), .int .i64 ((rd_T59 l0 x33_1).f2), .int .i64 ((rd_T59 l0 x33_1).f3), .int .i64 ((rd_T59 l0 x33_1).f4)] 59 (0, 0)) (by (with_reducible repeat (first | refine blk_drewN ?_ _ | refine blk_drew ?_ | refine blk_alloc ?_ _)); exact BK389.out) hb); have n5_ := Aside0.mk (blk_below (g := gb390) (o := .cells #[.int .i64 ((rd_T59 l0 x33_1).f1), .int .i64 ((rd_T59 l0 x33_1).f2)] 88 (0, 0)) (by (with_reducible repeat (first | refine blk_drewN ?_ _ | refine blk_drew ?_ | refine blk_alloc ?_ _)); exact BK390.out) hb); have n6_ := Aside0.mk (IsS86.below (by repeat (first | (with_reducible first | exact HI387.out | apply IsS86.alloc | apply IsS86.drewN | apply IsS86.drew | apply IsS86.set_0 | refine IsS86.far ?_ NB387_389.out _ | refine IsS86.far ?_ NB387_390.out _) | exact HI387.out)) hb); have n7_ := Aside0.mk (below_step (by repeat (first | (with_reducible first | exact HB.out | apply below_alloc | apply pw_below_drewN | apply below_drew1 | refine below_set ?_ (IsS86.ge HI387.out) | refine below_set ?_ GE389.out | refine below_set ?_ GE390.out) | exact HB.out)) hb); clear HO_7; clear HO_12; clear HO_13; clear BK389; clear BK390; clear HI387; clear HB; have HO_7 := n0_; have HO_12 := n1_; have HO_13 := n2_; have HO405 := n3_; have BK389 := n4_; have BK390 := n5_; have HI387 := n6_; have HB := n7_; clear n0_ n1_ n2_ n3_ n4_ n5_ n6_ n7_; (try clear hb); (try clear hb2); (try clear hk); (try clear hi); (try clear ho0)))
               go_ret2
               exact ⟨_, by first | rfl | (simp [errW_none, errW_some] <;> rfl) | (simp [*, errW_none, errW_some] <;> rfl), by first | exact Kd.R_nil _ _ _ _ _ | exact Kd.N_nil _ _ _ _ _ | exact Kd.V_nil _ _ _ _ _ | exact Kd.Q_nil _ _ _ _ _ | exact Kd.S_nil _ _ _ _ _, by repeat (first | (with_reducible first | exact HB.out | apply below_alloc | apply pw_below_drewN | apply below_drew1 | refine below_set ?_ (IsS86.ge HI387.out) | refine below_set ?_ GE389.out | refine below_set ?_ GE390.out) | exact HB.out)⟩
         ·rw [if_neg c16] at H
          exact absurd H (by simp)
        ·rw [if_neg c15] at H
         exact absurd H (by simp)
       ·rw [if_neg c14] at H
        have c14b0 : decide (x33_1 < (l0.length : Int)) = false := decide_eq_false c14
        clear c14
        simp only [Option.some.injEq, Prod.mk.injEq] at H
        obtain ⟨rfl, rfl⟩ := H
        go_wp2
        go_ret2
        exact ⟨_, by first | rfl | (simp [errW_none, errW_some] <;> rfl) | (simp [*, errW_none, errW_some] <;> rfl), by (with_reducible repeat (first | apply Kd.R_alloc | apply Kd.R_drewN | apply Kd.R_drew)); exact HO_7.out, by repeat (first | (with_reducible first | exact HB.out | apply below_alloc | apply pw_below_drewN | apply below_drew1 | refine below_set ?_ (IsS86.ge HI387.out)) | exact HB.out)⟩
    ·rw [if_neg c8] at H
     exact absurd H (by simp)
   ·rw [if_neg c7] at H
    exact absurd H (by simp)
 ·rw [if_neg c4] at H
  have c4b0 : (t382 == 0) = false := beq_eq_false_iff_ne.mpr c4
  have c4b1 : (t382 != 0) = true := bne_iff_ne.mpr c4
  simp only [Option.some.injEq, Prod.mk.injEq] at H
  obtain ⟨rfl, rfl⟩ := H
  go_enter Try.func35, Try.ntmps35
  go_wp2_with (first | ((with_reducible refine gate_callee (f := 39) rfl ?_); refine goesL_ (some 21) rfl rfl Try.func39 (by kernel_rfl) rfl #[.slice A0 l0.length c0] rfl (by (try simp only [List.map_toArray, List.map_cons, List.map_nil]); first | done | rfl | (simp only [List.length_drop, List.length_take]; rfl)) ?_; (with_reducible refine (cap_Check.calls k _ _ l0 t382 _ ?side1 ?side2 A3.out).mono ?_); (case side1 => repeat (first | exact HR0.out | (with_reducible refine Kd.C_alloc ?_ _) | (with_reducible refine Kd.C_drewN ?_ _) | (with_reducible refine Kd.C_drew ?_))); (case side2 => exact HC0.out); rintro e w102 ⟨rfl, hb⟩; refine ⟨_, rfl, ?_⟩; have n0_ := Aside0.mk (below_step (by repeat (first | (with_reducible first | exact HB.out | apply below_alloc | apply pw_below_drewN | apply below_drew1) | exact HB.out)) hb); clear HB; have HB := n0_; clear n0_; (try clear hb); (try clear hb2); (try clear hk); (try clear hi)))
  go_ret2
  exact ⟨_, by first | rfl | (simp [errW_none, errW_some] <;> rfl) | (simp [*, errW_none, errW_some] <;> rfl), by first | exact Kd.R_nil _ _ _ _ _ | exact Kd.N_nil _ _ _ _ _ | exact Kd.V_nil _ _ _ _ _ | exact Kd.Q_nil _ _ _ _ _ | exact Kd.S_nil _ _ _ _ _, by repeat (first | (with_reducible first | exact HB.out | apply below_alloc | apply pw_below_drewN | apply below_drew1) | exact HB.out)⟩

end Go.Proofs.Ytbcaaocogphdeaa.PCap
