-- Printed by this session's wip/myprint.py.
import Derived.Test.YtbcaaocogphdeaaPCapx0
import Derived.Test.YtbcaaocogphdeaaPCapx26
import Derived.Test.YtbcaaocogphdeaaPCapx39
namespace Go.Proofs.Ytbcaaocogphdeaa.PCap
open Go.RowKit Go.Proofs.YtbcaaocogphdeaaW.PrintWords Go.Proofs.YtbcaaocogphdeaaW.PrintLast Go.Proofs.YtbcaaocogphdeaaW.PrintMore
attribute [local go_sem] max2_int min2_int max_two min_two max_three min_three max_four min_four   -- for this text's walks alone
set_option linter.unusedVariables false
set_option linter.unusedSimpArgs false

/-! ### cap_Budget: function 33 -/
mutual
def cap_Budget.l0 : Nat → List (S59) → Int → List Int → List Int → Int → Int → Option (List Int × Int)
 | 0, _, _, _, _, _, _ => none
 | k + 1, x0, x1, x7, x27, x28, x29 => if x29 < x28 then (if 0 ≤ x29 then (if x29 < (x27.length : Int) then (if 0 ≤ (x0.length : Int) then (if ((x0.length : Int) : Int).toNat ≤ 35184372088832 then (cap_Budget.l1 k x0 x1 x7 (rd x27 x29) (List.replicate ((x0.length : Int) : Int).toNat 0) 0 x27 x28 x29 x0 (x0.length : Int) 0) else (none)) else (none)) else (none)) else (none)) else (some (x7, 0))
def cap_Budget.l1 : Nat → List (S59) → Int → List Int → Int → List Int → Int → List Int → Int → Int → List (S59) → Int → Int → Option (List Int × Int)
 | 0, _, _, _, _, _, _, _, _, _, _, _, _ => none
 | k + 1, x0, x1, x7, x9, x10, x11, x27, x28, x29, x36, x37, x38 => if x38 < x37 then (if 0 ≤ x38 then (if x38 < (x36.length : Int) then (if ((rd_T59 x36 x38).f3) = x9 then (if x38 < (x10.length : Int) then (cap_Budget.l1 k x0 x1 x7 x9 (x10.set (x38 : Int).toNat ((rd_T59 x36 x38).f4)) (wrap64 (x11 + ((rd_T59 x36 x38).f4))) x27 x28 x29 x36 x37 (wrap64 (x38 + 1))) else (none)) else (cap_Budget.l1 k x0 x1 x7 x9 x10 x11 x27 x28 x29 x36 x37 (wrap64 (x38 + 1)))) else (none)) else (none)) else (if x11 = 0 then (cap_Budget.l0 k x0 x1 x7 x27 x28 (wrap64 (x29 + 1))) else ((cap_split.f k (mn x11 x1) x11 x10).bind fun t316 => (cap_Budget.l2 k x0 x1 x7 x11 x27 x28 x29 t316 (t316.length : Int) 0)))
def cap_Budget.l2 : Nat → List (S59) → Int → List Int → Int → List Int → Int → Int → List Int → Int → Int → Option (List Int × Int)
 | 0, _, _, _, _, _, _, _, _, _, _ => none
 | k + 1, x0, x1, x7, x11, x27, x28, x29, x64, x65, x66 => if x66 < x65 then (if 0 ≤ x66 then (if x66 < (x64.length : Int) then (if x66 < (x7.length : Int) then (cap_Budget.l2 k x0 x1 (x7.set (x66 : Int).toNat (wrap64 ((rd x7 x66) + (rd x64 x66)))) x11 x27 x28 x29 x64 x65 (wrap64 (x66 + 1))) else (none)) else (none)) else (none)) else (cap_Budget.l0 k x0 (wrap64 (x1 - (mn x11 x1))) x7 x27 x28 (wrap64 (x29 + 1)))
end
def cap_Budget.f (k : Nat) (l0 : List (S59)) (a1 : Int) : Option (List Int × Int) := (cap_Check.f k l0).bind fun t302 => (if t302 = 0 then (if a1 < 0 then (some (([] : List Int), 1)) else (if 0 ≤ (l0.length : Int) then (if ((l0.length : Int) : Int).toNat ≤ 35184372088832 then ((cap_ranks.f k l0).bind fun t306 => (cap_Budget.l0 k l0 a1 (List.replicate ((l0.length : Int) : Int).toNat 0) t306 (t306.length : Int) 0)) else (none)) else (none))) else (some (([] : List Int), t302)))
theorem cap_Budget.mono_l : ∀ k, (∀ y0 y1 y2 y3 y4 y5, LeO (cap_Budget.l0 k y0 y1 y2 y3 y4 y5) (cap_Budget.l0 (k + 1) y0 y1 y2 y3 y4 y5)) ∧ (∀ y0 y1 y2 y3 y4 y5 y6 y7 y8 y9 y10 y11, LeO (cap_Budget.l1 k y0 y1 y2 y3 y4 y5 y6 y7 y8 y9 y10 y11) (cap_Budget.l1 (k + 1) y0 y1 y2 y3 y4 y5 y6 y7 y8 y9 y10 y11)) ∧ (∀ y0 y1 y2 y3 y4 y5 y6 y7 y8 y9, LeO (cap_Budget.l2 k y0 y1 y2 y3 y4 y5 y6 y7 y8 y9) (cap_Budget.l2 (k + 1) y0 y1 y2 y3 y4 y5 y6 y7 y8 y9))
 | 0 => ⟨fun _ _ _ _ _ _ r h => by simp [cap_Budget.l0] at h, fun _ _ _ _ _ _ _ _ _ _ _ _ r h => by simp [cap_Budget.l1] at h, fun _ _ _ _ _ _ _ _ _ _ r h => by simp [cap_Budget.l2] at h⟩
 | k + 1 => by
  obtain ⟨ih0, ih1, ih2⟩ := cap_Budget.mono_l k
  refine ⟨?_, ?_, ?_⟩
  ·intro y0 y1 y2 y3 y4 y5
   unfold cap_Budget.l0
   repeat' first
   | (with_reducible exact ih0 _ _ _ _ _ _)
   | (with_reducible exact ih1 _ _ _ _ _ _ _ _ _ _ _ _)
   | (with_reducible exact ih2 _ _ _ _ _ _ _ _ _ _)
   | (with_reducible exact cap_Check.mono _ _)
   | (with_reducible exact cap_ranks.mono _ _)
   | (with_reducible exact cap_split.mono _ _ _ _)
   | (with_reducible exact LeO.refl _)
   | (with_reducible exact LeO.none _)
   | (with_reducible refine LeO.ite ?_ ?_)
   | (with_reducible refine LeO.bind ?_ (fun _ => ?_))
   | exact ih0 _ _ _ _ _ _
   | exact ih1 _ _ _ _ _ _ _ _ _ _ _ _
   | exact ih2 _ _ _ _ _ _ _ _ _ _
   | exact cap_Check.mono _ _
   | exact cap_ranks.mono _ _
   | exact cap_split.mono _ _ _ _
   | exact LeO.none _
   | refine LeO.ite ?_ ?_
   | refine LeO.bind ?_ (fun _ => ?_)
  ·intro y0 y1 y2 y3 y4 y5 y6 y7 y8 y9 y10 y11
   unfold cap_Budget.l1
   repeat' first
   | (with_reducible exact ih0 _ _ _ _ _ _)
   | (with_reducible exact ih1 _ _ _ _ _ _ _ _ _ _ _ _)
   | (with_reducible exact ih2 _ _ _ _ _ _ _ _ _ _)
   | (with_reducible exact cap_Check.mono _ _)
   | (with_reducible exact cap_ranks.mono _ _)
   | (with_reducible exact cap_split.mono _ _ _ _)
   | (with_reducible exact LeO.refl _)
   | (with_reducible exact LeO.none _)
   | (with_reducible refine LeO.ite ?_ ?_)
   | (with_reducible refine LeO.bind ?_ (fun _ => ?_))
   | exact ih0 _ _ _ _ _ _
   | exact ih1 _ _ _ _ _ _ _ _ _ _ _ _
   | exact ih2 _ _ _ _ _ _ _ _ _ _
   | exact cap_Check.mono _ _
   | exact cap_ranks.mono _ _
   | exact cap_split.mono _ _ _ _
   | exact LeO.none _
   | refine LeO.ite ?_ ?_
   | refine LeO.bind ?_ (fun _ => ?_)
  ·intro y0 y1 y2 y3 y4 y5 y6 y7 y8 y9
   unfold cap_Budget.l2
   repeat' first
   | (with_reducible exact ih0 _ _ _ _ _ _)
   | (with_reducible exact ih1 _ _ _ _ _ _ _ _ _ _ _ _)
   | (with_reducible exact ih2 _ _ _ _ _ _ _ _ _ _)
   | (with_reducible exact cap_Check.mono _ _)
   | (with_reducible exact cap_ranks.mono _ _)
   | (with_reducible exact cap_split.mono _ _ _ _)
   | (with_reducible exact LeO.refl _)
   | (with_reducible exact LeO.none _)
   | (with_reducible refine LeO.ite ?_ ?_)
   | (with_reducible refine LeO.bind ?_ (fun _ => ?_))
   | exact ih0 _ _ _ _ _ _
   | exact ih1 _ _ _ _ _ _ _ _ _ _ _ _
   | exact ih2 _ _ _ _ _ _ _ _ _ _
   | exact cap_Check.mono _ _
   | exact cap_ranks.mono _ _
   | exact cap_split.mono _ _ _ _
   | exact LeO.none _
   | refine LeO.ite ?_ ?_
   | refine LeO.bind ?_ (fun _ => ?_)
theorem cap_Budget.mono : ∀ a0 a1 k, LeO (cap_Budget.f k a0 a1) (cap_Budget.f (k + 1) a0 a1) := by
 intro a0 a1 k
 obtain ⟨ih0, ih1, ih2⟩ := cap_Budget.mono_l k
 unfold cap_Budget.f
 repeat' first
  | (with_reducible exact ih0 _ _ _ _ _ _)
  | (with_reducible exact ih1 _ _ _ _ _ _ _ _ _ _ _ _)
  | (with_reducible exact ih2 _ _ _ _ _ _ _ _ _ _)
  | (with_reducible exact cap_Check.mono _ _)
  | (with_reducible exact cap_ranks.mono _ _)
  | (with_reducible exact cap_split.mono _ _ _ _)
  | (with_reducible exact LeO.refl _)
  | (with_reducible exact LeO.none _)
  | (with_reducible refine LeO.ite ?_ ?_)
  | (with_reducible refine LeO.bind ?_ (fun _ => ?_))
  | exact ih0 _ _ _ _ _ _
  | exact ih1 _ _ _ _ _ _ _ _ _ _ _ _
  | exact ih2 _ _ _ _ _ _ _ _ _ _
  | exact cap_Check.mono _ _
  | exact cap_ranks.mono _ _
  | exact cap_split.mono _ _ _ _
  | exact LeO.none _
  | refine LeO.ite ?_ ?_
  | refine LeO.bind ?_ (fun _ => ?_)
set_option maxHeartbeats 8000000 in
set_option maxRecDepth 100000 in
theorem cap_Budget.calls (k : Nat) (A0 : Option Addr) (c0 : Nat) (l0 : List (S59)) (a1 : Int) (r1 : List Int) (r2 : Int) (w : World) (hr0 : Kd.C k59 w A0 l0.length l0) (hc0 : l0.length ≤ c0) (h : cap_Budget.f k l0 a1 = some (r1, r2)) :
 Calls Try.prog 33 #[.slice A0 l0.length c0, .int .i64 a1] w fun e w' => ∃ v0_ : Value, e = .returned (.tuple #[v0_, .int .i64 r2]) ∧ Kd.R (Kd.int .i64) 3 w' w.heap.size (fun _ => True) v0_ r1 ∧ Below w.heap.size w w' := by
 have hu59 := Try.underlying59
 have HR0 := Aside0.mk hr0
 have HC0 := Aside0.mk hc0
 clear hr0 hc0
 have HB := Aside0.mk (Below.refl w.heap.size w)
 have H : ((cap_Check.f k l0).bind fun t302 => (if t302 = 0 then (if a1 < 0 then (some (([] : List Int), 1)) else (if 0 ≤ (l0.length : Int) then (if ((l0.length : Int) : Int).toNat ≤ 35184372088832 then ((cap_ranks.f k l0).bind fun t306 => (cap_Budget.l0 k l0 a1 (List.replicate ((l0.length : Int) : Int).toNat 0) t306 (t306.length : Int) 0)) else (none)) else (none))) else (some (([] : List Int), t302)))) = some (r1, r2) := h
 clear h
 replace H := Option.bind_eq_some_iff.mp H
 obtain ⟨t302, A30, H⟩ := H
 replace H : (if t302 = 0 then (if a1 < 0 then (some (([] : List Int), 1)) else (if 0 ≤ (l0.length : Int) then (if ((l0.length : Int) : Int).toNat ≤ 35184372088832 then ((cap_ranks.f k l0).bind fun t306 => (cap_Budget.l0 k l0 a1 (List.replicate ((l0.length : Int) : Int).toNat 0) t306 (t306.length : Int) 0)) else (none)) else (none))) else (some (([] : List Int), t302))) = some (r1, r2) := H
 have A3 := Aside0.mk A30
 clear A30
 by_cases c4 : t302 = 0
 ·rw [if_pos c4] at H
  have c4b0 : (t302 == 0) = true := beq_iff_eq.mpr c4
  have c4b1 : (t302 != 0) = false := bne_eq_false_iff_eq.mpr c4
  clear c4
  by_cases c5 : a1 < 0
  ·rw [if_pos c5] at H
   have c5b0 : decide (a1 < 0) = true := decide_eq_true c5
   clear c5
   simp only [Option.some.injEq, Prod.mk.injEq] at H
   obtain ⟨rfl, rfl⟩ := H
   go_enter Try.func33, Try.ntmps33
   go_wp2_with (first | ((with_reducible refine gate_callee (f := 39) rfl ?_); refine goesL_ (some 17) rfl rfl Try.func39 (by kernel_rfl) rfl #[.slice A0 l0.length c0] rfl (by (try simp only [List.map_toArray, List.map_cons, List.map_nil]); first | done | rfl | (simp only [List.length_drop, List.length_take]; rfl)) ?_; (with_reducible refine (cap_Check.calls k _ _ l0 t302 _ ?side1 ?side2 A3.out).mono ?_); (case side1 => repeat (first | exact HR0.out | (with_reducible refine Kd.C_alloc ?_ _) | (with_reducible refine Kd.C_drewN ?_ _) | (with_reducible refine Kd.C_drew ?_))); (case side2 => exact HC0.out); rintro e w6 ⟨rfl, hb⟩; refine ⟨_, rfl, ?_⟩; have n0_ := Aside0.mk (below_step (by repeat (first | (with_reducible first | exact HB.out | apply below_alloc | apply pw_below_drewN | apply below_drew1) | exact HB.out)) hb); clear HB; have HB := n0_; clear n0_; (try clear hb); (try clear hb2); (try clear hk); (try clear hi)))
   go_ret2
   exact ⟨_, by first | rfl | (simp [errW_none, errW_some] <;> rfl) | (simp [*, errW_none, errW_some] <;> rfl), by first | exact Kd.R_nil _ _ _ _ _ | exact Kd.N_nil _ _ _ _ _ | exact Kd.V_nil _ _ _ _ _ | exact Kd.Q_nil _ _ _ _ _ | exact Kd.S_nil _ _ _ _ _, by repeat (first | (with_reducible first | exact HB.out | apply below_alloc | apply pw_below_drewN | apply below_drew1) | exact HB.out)⟩
  ·rw [if_neg c5] at H
   have c5b0 : decide (a1 < 0) = false := decide_eq_false c5
   clear c5
   by_cases c7 : 0 ≤ (l0.length : Int)
   ·rw [if_pos c7] at H
    have c7b0 := eq_true c7
    have c7b1 : decide (0 ≤ (l0.length : Int)) = true := decide_eq_true c7
    clear c7
    by_cases c8 : ((l0.length : Int) : Int).toNat ≤ 35184372088832
    ·rw [if_pos c8] at H
     have c8b0 := eq_true c8
     have c8b1 : decide (((l0.length : Int) : Int).toNat ≤ 35184372088832) = true := decide_eq_true c8
     clear c8
     obtain ⟨y303, hy303⟩ : ∃ y_ : List Int, y_ = (List.replicate ((l0.length : Int) : Int).toNat 0) := ⟨_, rfl⟩
     replace H : ((cap_ranks.f k l0).bind fun t306 => (cap_Budget.l0 k l0 a1 y303 t306 (t306.length : Int) 0)) = some (r1, r2) := by first | (rw [hy303]; with_reducible exact H) | (have H2_ := (Option.bind_some _ _).symm.trans H; rw [hy303]; with_reducible exact H2_) | (have H2_ := (Option.bind_some _ _).symm.trans H; with_reducible exact H2_) | with_reducible exact H | (rw [hy303]; exact H) | exact H
     have Ny303 := Aside0.mk hy303
     clear hy303
     replace H := Option.bind_eq_some_iff.mp H
     obtain ⟨t306, A90, H⟩ := H
     replace H : (cap_Budget.l0 k l0 a1 y303 t306 (t306.length : Int) 0) = some (r1, r2) := H
     have A9 := Aside0.mk A90
     clear A90
     have H' := Aside0.mk H
     clear H
     go_enter Try.func33, Try.ntmps33
     go_wp2_with (first | ((with_reducible refine gate_callee (f := 39) rfl ?_); refine goesL_ (some 17) rfl rfl Try.func39 (by kernel_rfl) rfl #[.slice A0 l0.length c0] rfl (by (try simp only [List.map_toArray, List.map_cons, List.map_nil]); first | done | rfl | (simp only [List.length_drop, List.length_take]; rfl)) ?_; (with_reducible refine (cap_Check.calls k _ _ l0 t302 _ ?side1 ?side2 A3.out).mono ?_); (case side1 => repeat (first | exact HR0.out | (with_reducible refine Kd.C_alloc ?_ _) | (with_reducible refine Kd.C_drewN ?_ _) | (with_reducible refine Kd.C_drew ?_))); (case side2 => exact HC0.out); rintro e w10 ⟨rfl, hb⟩; refine ⟨_, rfl, ?_⟩; have n0_ := Aside0.mk (below_step (by repeat (first | (with_reducible first | exact HB.out | apply below_alloc | apply pw_below_drewN | apply below_drew1) | exact HB.out)) hb); clear HB; have HB := n0_; clear n0_; (try clear hb); (try clear hb2); (try clear hk); (try clear hi)) | ((with_reducible refine gate_dst (N := 25) rfl ?_); refine Kd.R_make (Kd.int .i64) _ 3 rfl (N := 25) rfl 22 _ _ rfl (l0.length : Int) rfl rfl Try.underlying22 (.int .i64 0) 8 info3 rfl (by decide) (by omega) 0 (ok := fun _ => True) (okp := fun _ => True) rfl (fun _ hk => hk) trivial (of_decide_eq_true (by first | (with_reducible assumption) | assumption)) (Nat.le_trans (Nat.mul_le_mul_right _ (of_decide_eq_true (by first | (with_reducible assumption) | assumption) : (l0.length : Int).toNat ≤ 35184372088832)) (by omega)) (Below.refl _ _) (Nat.le_refl _) ?_; intro v304 w11 ho12 hb hg_ hnew_; clear hg_ hnew_; (first | rw [← Ny303.out] at ho12 | (simp only [Int.reduceToNat] at ho12; rw [← Ny303.out] at ho12)); have n0_ := Aside0.mk (Kd.R_lower ho12 (below_size (by repeat (first | (with_reducible first | exact HB.out | apply below_alloc | apply pw_below_drewN | apply below_drew1) | exact HB.out)))); have n1_ := Aside0.mk (below_step (by repeat (first | (with_reducible first | exact HB.out | apply below_alloc | apply pw_below_drewN | apply below_drew1) | exact HB.out)) hb); clear HB; have HO305 := n0_; have HB := n1_; clear n0_ n1_; clear hb ho12) | ((with_reducible refine gate_callee (f := 51) rfl ?_); refine goesL_ (some 27) rfl rfl Try.func51 (by kernel_rfl) rfl #[.slice A0 l0.length c0] rfl (by (try simp only [List.map_toArray, List.map_cons, List.map_nil]); first | done | rfl | (simp only [List.length_drop, List.length_take]; rfl)) ?_; (with_reducible refine (cap_ranks.calls k _ _ l0 t306 _ ?side1 ?side2 A9.out).mono ?_); (case side1 => repeat (first | exact (Kd.C_below HR0.out HB.out) | (with_reducible refine Kd.C_alloc ?_ _) | (with_reducible refine Kd.C_drewN ?_ _) | (with_reducible refine Kd.C_drew ?_))); (case side2 => exact HC0.out); rintro e w13 ⟨v307, rfl, ho0, hb⟩; refine ⟨_, rfl, ?_⟩; have n0_ := Aside0.mk (Kd.R_elder' (by (with_reducible repeat (first | apply Kd.R_alloc | apply Kd.R_drewN | apply Kd.R_drew)); exact HO305.out) (Kd.R_base ho0) hb); have n1_ := Aside0.mk (Kd.R_lower (Kd.R_new' ho0 (Kd.R_lt (by (with_reducible repeat (first | apply Kd.R_alloc | apply Kd.R_drewN | apply Kd.R_drew)); exact HO305.out))) (below_size (by repeat (first | (with_reducible first | exact HB.out | apply below_alloc | apply pw_below_drewN | apply below_drew1) | exact HB.out)))); have n2_ := Aside0.mk (below_step (by repeat (first | (with_reducible first | exact HB.out | apply below_alloc | apply pw_below_drewN | apply below_drew1) | exact HB.out)) hb); clear HO305; clear HB; have HO305 := n0_; have HO308 := n1_; have HB := n2_; clear n0_ n1_ n2_; (try clear hb); (try clear hb2); (try clear hk); (try clear hi); (try clear ho0); obtain ⟨Ao14, co14, eo14⟩ := Kd.R_slice HO308.out; subst eo14))
     go_loopg [1, 29] k (fun kq v1 v29 w' => ∃ (x1_1 : Int) (x7_1 : List Int) (x27_1 : List Int) (x29_1 : Int), v1 = .int .i64 x1_1 ∧ v29 = .int .i64 x29_1 ∧ Aside0 (cap_Budget.l0 kq l0 x1_1 x7_1 x27_1 (t306.length : Int) x29_1 = some (r1, r2)) ∧ Aside0 (kq ≤ k) ∧ Aside0 (Kd.R (Kd.int .i64) 3 w' w.heap.size (fun k_ => some k_ ≠ ((.slice Ao14 t306.length co14) : Value).ownBlock) v304 x7_1) ∧ Aside0 (Kd.R (Kd.int .i64) 3 w' w.heap.size (fun k_ => some k_ ≠ (v304 : Value).ownBlock) (.slice Ao14 t306.length co14) x27_1) ∧ Aside0 (Below w.heap.size w w'))
     case atStart => exact ⟨(a1), (y303), (t306), (0), (by first | rfl | (simp; done) | (simp [*]; done)), (by first | rfl | (simp; done) | (simp [*]; done)), H', ⟨Nat.le_refl _⟩, ⟨by (with_reducible repeat (first | apply Kd.R_alloc | apply Kd.R_drewN | apply Kd.R_drew)); exact Kd.R_mono HO305.out (fun _ hk => hk.2)⟩, ⟨by (with_reducible repeat (first | apply Kd.R_alloc | apply Kd.R_drewN | apply Kd.R_drew)); exact Kd.R_mono HO308.out (fun _ hk => hk.2)⟩, ⟨by repeat (first | (with_reducible first | exact HB.out | apply below_alloc | apply pw_below_drewN | apply below_drew1) | exact HB.out)⟩⟩
     case round =>
      clear H'
      try clear p2
      try clear c3
      try clear c4
      try clear c4b0
      try clear c4b1
      try clear c5
      try clear c5b0
      try clear c7
      try clear c7b0
      try clear c7b1
      try clear c8
      try clear c8b0
      try clear c8b1
      obtain ⟨x1_1, x7_1, x27_1, x29_1, rfl, rfl, HA, HK1, HO_7, HO_27, HB⟩ := hrel
      have hl27_1 := (Kd.R_reads' HO_27.out).1
      rw [hl27_1] at HO_27
      (try simp only [hl27_1])
      (try simp only [hl27_1] at HO_7)
      cases gk with
      | zero => exact absurd HA.out (by simp [cap_Budget.l0])
      | succ k1 =>
       have H := HA.out
       clear HA
       simp only [cap_Budget.l0] at H
       by_cases c15 : x29_1 < (t306.length : Int)
       ·rw [if_pos c15] at H
        have c15b0 : decide (x29_1 < (t306.length : Int)) = true := decide_eq_true c15
        (try (have c15bx := c15b0; simp only [hl27_1] at c15bx))
        clear c15
        by_cases c16 : 0 ≤ x29_1
        ·rw [if_pos c16] at H
         have c16b0 : decide (0 ≤ x29_1) = true := decide_eq_true c16
         clear c16
         by_cases c17 : x29_1 < (x27_1.length : Int)
         ·rw [if_pos c17] at H
          have c17b0 : decide (x29_1 < (x27_1.length : Int)) = true := decide_eq_true c17
          (try (have c17bx := c17b0; simp only [hl27_1] at c17bx))
          clear c17
          by_cases c18 : 0 ≤ (l0.length : Int)
          ·rw [if_pos c18] at H
           have c18b0 := eq_true c18
           have c18b1 : decide (0 ≤ (l0.length : Int)) = true := decide_eq_true c18
           clear c18
           by_cases c19 : ((l0.length : Int) : Int).toNat ≤ 35184372088832
           ·rw [if_pos c19] at H
            have c19b0 := eq_true c19
            have c19b1 : decide (((l0.length : Int) : Int).toNat ≤ 35184372088832) = true := decide_eq_true c19
            clear c19
            obtain ⟨y310, hy310⟩ : ∃ y_ : List Int, y_ = (List.replicate ((l0.length : Int) : Int).toNat 0) := ⟨_, rfl⟩
            replace H : (cap_Budget.l1 k1 l0 x1_1 x7_1 (rd x27_1 x29_1) y310 0 x27_1 (t306.length : Int) x29_1 l0 (l0.length : Int) 0) = some (r1, r2) := by first | (rw [hy310]; with_reducible exact H) | (have H2_ := (Option.bind_some _ _).symm.trans H; rw [hy310]; with_reducible exact H2_) | (have H2_ := (Option.bind_some _ _).symm.trans H; with_reducible exact H2_) | with_reducible exact H | (rw [hy310]; exact H) | exact H
            have Ny310 := Aside0.mk hy310
            clear hy310
            have H' := Aside0.mk H
            clear H
            have p309 : 0 ≤ (x29_1 : Int) := of_decide_eq_true (by first | (with_reducible assumption) | assumption)
            have q309 : x29_1 < (x27_1.length : Int) := of_decide_eq_true (by first | (with_reducible assumption) | assumption)
            obtain ⟨ad309, e309, hx309_0⟩ := Kd.at_int (Kd.R_reads' HO_27.out).2.2 x29_1 p309 q309
            cases e309
            replace p309 := eq_true p309
            replace q309 := eq_true q309
            go_wp2_with (first | ((with_reducible refine gate_dst (N := 35) rfl ?_); refine Kd.R_make (Kd.int .i64) _ 3 rfl (N := 35) rfl 22 _ _ rfl (l0.length : Int) rfl rfl Try.underlying22 (.int .i64 0) 8 info3 rfl (by decide) (by omega) 0 (ok := fun _ => True) (okp := fun _ => True) rfl (fun _ hk => hk) trivial (of_decide_eq_true (by first | (with_reducible assumption) | assumption)) (Nat.le_trans (Nat.mul_le_mul_right _ (of_decide_eq_true (by first | (with_reducible assumption) | assumption) : (l0.length : Int).toNat ≤ 35184372088832)) (by omega)) (Below.refl _ _) (Nat.le_refl _) ?_; intro v311 w20 ho21 hb hg_ hnew_; clear hg_ hnew_; (first | rw [← Ny310.out] at ho21 | (simp only [Int.reduceToNat] at ho21; rw [← Ny310.out] at ho21)); have n0_ := Aside0.mk (Kd.R_elder' (by (with_reducible repeat (first | apply Kd.R_alloc | apply Kd.R_drewN | apply Kd.R_drew)); exact HO_7.out) (Kd.R_base ho21) hb); have n1_ := Aside0.mk (Kd.R_elder' (by (with_reducible repeat (first | apply Kd.R_alloc | apply Kd.R_drewN | apply Kd.R_drew)); exact HO_27.out) (Kd.R_base ho21) hb); have n2_ := Aside0.mk (Kd.R_lower (Kd.R_new' (Kd.R_new' ho21 (Kd.R_lt (by (with_reducible repeat (first | apply Kd.R_alloc | apply Kd.R_drewN | apply Kd.R_drew)); exact HO_7.out))) (Kd.R_lt (by (with_reducible repeat (first | apply Kd.R_alloc | apply Kd.R_drewN | apply Kd.R_drew)); exact HO_27.out))) (below_size (by repeat (first | (with_reducible first | exact HB.out | apply below_alloc | apply pw_below_drewN | apply below_drew1) | exact HB.out)))); have n3_ := Aside0.mk (below_step (by repeat (first | (with_reducible first | exact HB.out | apply below_alloc | apply pw_below_drewN | apply below_drew1) | exact HB.out)) hb); clear HO_7; clear HO_27; clear HB; have HO_7 := n0_; have HO_27 := n1_; have HO312 := n2_; have HB := n3_; clear n0_ n1_ n2_ n3_; clear hb ho21))
            go_loopg [11, 38] k1 (fun kq v11 v38 w' => ∃ (x10_2 : List Int) (x11_2 : Int) (x38_2 : Int), v11 = .int .i64 x11_2 ∧ v38 = .int .i64 x38_2 ∧ Aside0 (cap_Budget.l1 kq l0 x1_1 x7_1 (rd x27_1 x29_1) x10_2 x11_2 x27_1 (t306.length : Int) x29_1 l0 (l0.length : Int) x38_2 = some (r1, r2)) ∧ Aside0 (kq ≤ k1) ∧ Aside0 (Kd.R (Kd.int .i64) 3 w' w.heap.size (fun k_ => some k_ ≠ (v311 : Value).ownBlock ∧ some k_ ≠ ((.slice (some ad309) x27_1.length co14) : Value).ownBlock) v304 x7_1) ∧ Aside0 (Kd.R (Kd.int .i64) 3 w' w.heap.size (fun k_ => some k_ ≠ (v304 : Value).ownBlock ∧ some k_ ≠ ((.slice (some ad309) x27_1.length co14) : Value).ownBlock) v311 x10_2) ∧ Aside0 (Kd.R (Kd.int .i64) 3 w' w.heap.size (fun k_ => some k_ ≠ (v304 : Value).ownBlock ∧ some k_ ≠ (v311 : Value).ownBlock) (.slice (some ad309) x27_1.length co14) x27_1) ∧ Aside0 (Below w.heap.size w w'))
            case atStart => exact ⟨(y310), (0), (0), (by first | rfl | (simp; done) | (simp [*]; done)), (by first | rfl | (simp; done) | (simp [*]; done)), H', ⟨Nat.le_refl _⟩, ⟨by (try simp only [hl27_1]); (with_reducible repeat (first | apply Kd.R_alloc | apply Kd.R_drewN | apply Kd.R_drew)); exact Kd.R_mono HO_7.out (fun _ hk => ⟨hk.2, hk.1⟩)⟩, ⟨by (try simp only [hl27_1]); (with_reducible repeat (first | apply Kd.R_alloc | apply Kd.R_drewN | apply Kd.R_drew)); exact Kd.R_mono HO312.out (fun _ hk => ⟨hk.1.2, hk.2⟩)⟩, ⟨by (try simp only [hl27_1]); (with_reducible repeat (first | apply Kd.R_alloc | apply Kd.R_drewN | apply Kd.R_drew)); exact HO_27.out⟩, ⟨by repeat (first | (with_reducible first | exact HB.out | apply below_alloc | apply pw_below_drewN | apply below_drew1) | exact HB.out)⟩⟩
            case round =>
             clear H'
             try clear c1
             try clear p2
             try clear c3
             try clear p3
             try clear q3
             try clear hx3
             try clear c4
             try clear c4b0
             try clear c4b1
             try clear c5
             try clear c5b0
             try clear c7
             try clear c7b0
             try clear c7b1
             try clear c8
             try clear c8b0
             try clear c8b1
             try clear c15
             try clear c15b0
             try clear c16
             try clear c16b0
             try clear c17
             try clear c17b0
             try clear c18
             try clear c18b0
             try clear c18b1
             try clear c19
             try clear c19b0
             try clear c19b1
             try clear hx309_0
             try clear p2
             try clear p309
             try clear q309
             obtain ⟨x10_2, x11_2, x38_2, rfl, rfl, HA, HK2, HO_7, HO_10, HO_27, HB⟩ := hrel
             cases gk with
             | zero => exact absurd HA.out (by simp [cap_Budget.l1])
             | succ k2 =>
              have H := HA.out
              clear HA
              simp only [cap_Budget.l1] at H
              by_cases c22 : x38_2 < (l0.length : Int)
              ·rw [if_pos c22] at H
               have c22b0 : decide (x38_2 < (l0.length : Int)) = true := decide_eq_true c22
               (try (have c22bx := c22b0; simp only [hl27_1] at c22bx))
               clear c22
               by_cases c23 : 0 ≤ x38_2
               ·rw [if_pos c23] at H
                have c23b0 : decide (0 ≤ x38_2) = true := decide_eq_true c23
                clear c23
                by_cases c24 : x38_2 < (l0.length : Int)
                ·rw [if_pos c24] at H
                 have c24b0 : decide (x38_2 < (l0.length : Int)) = true := decide_eq_true c24
                 (try (have c24bx := c24b0; simp only [hl27_1] at c24bx))
                 clear c24
                 by_cases c25 : ((rd_T59 l0 x38_2).f3) = (rd x27_1 x29_1)
                 ·rw [if_pos c25] at H
                  have c25b0 : (((rd_T59 l0 x38_2).f3) == (rd x27_1 x29_1)) = true := beq_iff_eq.mpr c25
                  have c25b1 : (((rd_T59 l0 x38_2).f3) != (rd x27_1 x29_1)) = false := bne_eq_false_iff_eq.mpr c25
                  clear c25
                  by_cases c26 : x38_2 < (x10_2.length : Int)
                  ·rw [if_pos c26] at H
                   have c26b0 : decide (x38_2 < (x10_2.length : Int)) = true := decide_eq_true c26
                   (try (have c26bx := c26b0; simp only [hl27_1] at c26bx))
                   clear c26
                   obtain ⟨y315, hy315⟩ : ∃ y_ : List Int, y_ = (x10_2.set (x38_2 : Int).toNat ((rd_T59 l0 x38_2).f4)) := ⟨_, rfl⟩
                   replace H : (cap_Budget.l1 k2 l0 x1_1 x7_1 (rd x27_1 x29_1) y315 (wrap64 (x11_2 + ((rd_T59 l0 x38_2).f4))) x27_1 (t306.length : Int) x29_1 l0 (l0.length : Int) (wrap64 (x38_2 + 1))) = some (r1, r2) := by first | (rw [hy315]; with_reducible exact H) | (have H2_ := (Option.bind_some _ _).symm.trans H; rw [hy315]; with_reducible exact H2_) | (have H2_ := (Option.bind_some _ _).symm.trans H; with_reducible exact H2_) | with_reducible exact H | (rw [hy315]; exact H) | exact H
                   have Ny315 := Aside0.mk hy315
                   clear hy315
                   have H' := Aside0.mk H
                   clear H
                   have p313 : 0 ≤ (x38_2 : Int) := of_decide_eq_true (by first | (with_reducible assumption) | assumption)
                   have q313 : x38_2 < (l0.length : Int) := of_decide_eq_true (by first | (with_reducible assumption) | assumption)
                   obtain ⟨ad313, e313, hx313_0, hx313_1, hx313_2, hx313_3, hx313_4⟩ := at_T59 HR0.out x38_2 p313 q313
                   cases e313
                   replace hx313_0 := (HB.out.cell (World.block_lt_of_cell? w _ hx313_0)).trans hx313_0
                   replace hx313_1 := (HB.out.cell (World.block_lt_of_cell? w _ hx313_1)).trans hx313_1
                   replace hx313_2 := (HB.out.cell (World.block_lt_of_cell? w _ hx313_2)).trans hx313_2
                   replace hx313_3 := (HB.out.cell (World.block_lt_of_cell? w _ hx313_3)).trans hx313_3
                   replace hx313_4 := (HB.out.cell (World.block_lt_of_cell? w _ hx313_4)).trans hx313_4
                   replace p313 := eq_true p313
                   replace q313 := eq_true q313
                   go_wp2_with (first | ((with_reducible refine gate_dst (N := 13) rfl ?_); refine box_event ?hg (N := 13) ?hd (cs := #[.int .i64 0, .int .i64 0, .int .i64 0, .int .i64 0, .int .i64 0]) (t := 59) ?hr ?_; (case hd => rfl); (case hg => rfl); (case hr => first | (go_simp; done) | (go_simp; rfl)); intro gb314 hg w28 hbox hb; have n0_ := Aside0.mk (Kd.R_below (by (with_reducible repeat (first | apply Kd.R_alloc | apply Kd.R_drewN | apply Kd.R_drew)); exact HO_7.out) hb); have n1_ := Aside0.mk (Kd.R_below (by (with_reducible repeat (first | apply Kd.R_alloc | apply Kd.R_drewN | apply Kd.R_drew)); exact HO_10.out) hb); have n2_ := Aside0.mk (Kd.R_below (by (with_reducible repeat (first | apply Kd.R_alloc | apply Kd.R_drewN | apply Kd.R_drew)); exact HO_27.out) hb); have n3_ := Aside0.mk (below_step (by repeat (first | (with_reducible first | exact HB.out | apply below_alloc | apply pw_below_drewN | apply below_drew1) | exact HB.out)) hb); have n4_ := Aside0.mk (hbox); have n5_ := Aside0.mk ((by rw [hg]; exact (below_size (by repeat (first | (with_reducible first | exact HB.out | apply below_alloc | apply pw_below_drewN | apply below_drew1) | exact HB.out))) : w.heap.size ≤ gb314)); have n6_ := Aside0.mk ((by rw [hg]; exact (below_size (by repeat (first | (with_reducible first | exact HB.out | apply below_alloc | apply pw_below_drewN | apply below_drew1) | exact HB.out))) : w.heap.size ≤ gb314)); clear HO_7; clear HO_10; clear HO_27; clear HB; have HO_7 := n0_; have HO_10 := n1_; have HO_27 := n2_; have HB := n3_; have BK314 := n4_; have GW314 := n5_; have GE314 := n6_; clear n0_ n1_ n2_ n3_ n4_ n5_ n6_; clear hb hbox hg; have hcz29_0 : w28.cell? ⟨gb314, 0, none⟩ = some (.int .i64 0) := (blk_cell BK314.out 0).trans rfl; have hcz29_1 : w28.cell? ⟨gb314, 1, none⟩ = some (.int .i64 0) := (blk_cell BK314.out 1).trans rfl; have hcz29_2 : w28.cell? ⟨gb314, 2, none⟩ = some (.int .i64 0) := (blk_cell BK314.out 2).trans rfl; have hcz29_3 : w28.cell? ⟨gb314, 3, none⟩ = some (.int .i64 0) := (blk_cell BK314.out 3).trans rfl; have hcz29_4 : w28.cell? ⟨gb314, 4, none⟩ = some (.int .i64 0) := (blk_cell BK314.out 4).trans rfl; have hfz29_0 := blk_frozen BK314.out 0; have hfz29_1 := blk_frozen BK314.out 1; have hfz29_2 := blk_frozen BK314.out 2; have hfz29_3 := blk_frozen BK314.out 3; have hfz29_4 := blk_frozen BK314.out 4) | ((with_reducible refine gate_store (t := 59) (p := 13) rfl ?_); refine store_event (t := 59) (p := 13) (v := ?vo_w30) (w1 := (((((w28.setCell ⟨gb314, 0, none⟩ (.int .i64 ((rd_T59 l0 x38_2).f0))).setCell ⟨gb314, 1, none⟩ (.int .i64 ((rd_T59 l0 x38_2).f1))).setCell ⟨gb314, 2, none⟩ (.int .i64 ((rd_T59 l0 x38_2).f2))).setCell ⟨gb314, 3, none⟩ (.int .i64 ((rd_T59 l0 x38_2).f3))).setCell ⟨gb314, 4, none⟩ (.int .i64 ((rd_T59 l0 x38_2).f4)))) ?hg ?ho ?hn ?hr ?_; (case ho => rfl); (case hg => rfl); (case hn => rfl); (case hr => first | (go_simp; done) | (go_simp; rfl)); intro w30 hw; have n0_ : Aside0 (Kd.R (Kd.int .i64) 3 w30 w.heap.size (fun k_ => some k_ ≠ (v311 : Value).ownBlock ∧ some k_ ≠ (.slice (some ad309) x27_1.length co14 : Value).ownBlock) v304 x7_1) := ⟨(by rw [hw]; exact (by (with_reducible repeat (first | apply Kd.R_alloc | apply Kd.R_drewN | apply Kd.R_drew)); exact Kd.R_mono (Kd.R_far (p := ⟨gb314, 4, none⟩) (Kd.R_far (p := ⟨gb314, 3, none⟩) (Kd.R_far (p := ⟨gb314, 2, none⟩) (Kd.R_far (p := ⟨gb314, 1, none⟩) (Kd.R_far (p := ⟨gb314, 0, none⟩) (Kd.R_types HO_7.out BK314.out (by decide)) (fun _ hk => hk.2) (.int .i64 ((rd_T59 l0 x38_2).f0))) (fun _ hk => hk.2) (.int .i64 ((rd_T59 l0 x38_2).f1))) (fun _ hk => hk.2) (.int .i64 ((rd_T59 l0 x38_2).f2))) (fun _ hk => hk.2) (.int .i64 ((rd_T59 l0 x38_2).f3))) (fun _ hk => hk.2) (.int .i64 ((rd_T59 l0 x38_2).f4))) (fun _ hk => ⟨hk.1.1, hk.1.2⟩)))⟩; have n1_ : Aside0 (Kd.R (Kd.int .i64) 3 w30 w.heap.size (fun k_ => some k_ ≠ (v304 : Value).ownBlock ∧ some k_ ≠ (.slice (some ad309) x27_1.length co14 : Value).ownBlock) v311 x10_2) := ⟨(by rw [hw]; exact (by (with_reducible repeat (first | apply Kd.R_alloc | apply Kd.R_drewN | apply Kd.R_drew)); exact Kd.R_mono (Kd.R_far (p := ⟨gb314, 4, none⟩) (Kd.R_far (p := ⟨gb314, 3, none⟩) (Kd.R_far (p := ⟨gb314, 2, none⟩) (Kd.R_far (p := ⟨gb314, 1, none⟩) (Kd.R_far (p := ⟨gb314, 0, none⟩) (Kd.R_types HO_10.out BK314.out (by decide)) (fun _ hk => hk.2) (.int .i64 ((rd_T59 l0 x38_2).f0))) (fun _ hk => hk.2) (.int .i64 ((rd_T59 l0 x38_2).f1))) (fun _ hk => hk.2) (.int .i64 ((rd_T59 l0 x38_2).f2))) (fun _ hk => hk.2) (.int .i64 ((rd_T59 l0 x38_2).f3))) (fun _ hk => hk.2) (.int .i64 ((rd_T59 l0 x38_2).f4))) (fun _ hk => ⟨hk.1.1, hk.1.2⟩)))⟩; have n2_ : Aside0 (Kd.R (Kd.int .i64) 3 w30 w.heap.size (fun k_ => some k_ ≠ (v304 : Value).ownBlock ∧ some k_ ≠ (v311 : Value).ownBlock) (.slice (some ad309) x27_1.length co14) x27_1) := ⟨(by rw [hw]; exact (by (with_reducible repeat (first | apply Kd.R_alloc | apply Kd.R_drewN | apply Kd.R_drew)); exact Kd.R_mono (Kd.R_far (p := ⟨gb314, 4, none⟩) (Kd.R_far (p := ⟨gb314, 3, none⟩) (Kd.R_far (p := ⟨gb314, 2, none⟩) (Kd.R_far (p := ⟨gb314, 1, none⟩) (Kd.R_far (p := ⟨gb314, 0, none⟩) (Kd.R_types HO_27.out BK314.out (by decide)) (fun _ hk => hk.2) (.int .i64 ((rd_T59 l0 x38_2).f0))) (fun _ hk => hk.2) (.int .i64 ((rd_T59 l0 x38_2).f1))) (fun _ hk => hk.2) (.int .i64 ((rd_T59 l0 x38_2).f2))) (fun _ hk => hk.2) (.int .i64 ((rd_T59 l0 x38_2).f3))) (fun _ hk => hk.2) (.int .i64 ((rd_T59 l0 x38_2).f4))) (fun _ hk => ⟨hk.1.1, hk.1.2⟩)))⟩; have n3_ : Aside0 (w30.heap[gb314]? = some (.cells #[.int .i64 ((rd_T59 l0 x38_2).f0), .int .i64 ((rd_T59 l0 x38_2).f1), .int .i64 ((rd_T59 l0 x38_2).f2), .int .i64 ((rd_T59 l0 x38_2).f3), .int .i64 ((rd_T59 l0 x38_2).f4)] 59 (0, 0))) := ⟨(by rw [hw]; exact (by (with_reducible repeat (first | refine blk_drewN ?_ _ | refine blk_drew ?_ | refine blk_alloc ?_ _)); refine blk_put (cs := #[.int .i64 ((rd_T59 l0 x38_2).f0), .int .i64 ((rd_T59 l0 x38_2).f1), .int .i64 ((rd_T59 l0 x38_2).f2), .int .i64 ((rd_T59 l0 x38_2).f3), .int .i64 0]) ?_ 4 _ rfl; (with_reducible repeat (first | refine blk_drewN ?_ _ | refine blk_drew ?_ | refine blk_alloc ?_ _)); refine blk_put (cs := #[.int .i64 ((rd_T59 l0 x38_2).f0), .int .i64 ((rd_T59 l0 x38_2).f1), .int .i64 ((rd_T59 l0 x38_2).f2), .int .i64 0, .int .i64 0]) ?_ 3 _ rfl; (with_reducible repeat (first | refine blk_drewN ?_ _ | refine blk_drew ?_ | refine blk_alloc ?_ _)); refine blk_put (cs := #[.int .i64 ((rd_T59 l0 x38_2).f0), .int .i64 ((rd_T59 l0 x38_2).f1), .int .i64 0, .int .i64 0, .int .i64 0]) ?_ 2 _ rfl; (with_reducible repeat (first | refine blk_drewN ?_ _ | refine blk_drew ?_ | refine blk_alloc ?_ _)); refine blk_put (cs := #[.int .i64 ((rd_T59 l0 x38_2).f0), .int .i64 0, .int .i64 0, .int .i64 0, .int .i64 0]) ?_ 1 _ rfl; (with_reducible repeat (first | refine blk_drewN ?_ _ | refine blk_drew ?_ | refine blk_alloc ?_ _)); refine blk_put (cs := #[.int .i64 0, .int .i64 0, .int .i64 0, .int .i64 0, .int .i64 0]) ?_ 0 _ rfl; (with_reducible repeat (first | refine blk_drewN ?_ _ | refine blk_drew ?_ | refine blk_alloc ?_ _)); exact BK314.out))⟩; have n4_ : Aside0 (Below w.heap.size w w30) := ⟨(by rw [hw]; exact (by repeat (first | (with_reducible first | exact HB.out | apply below_alloc | apply pw_below_drewN | apply below_drew1 | refine below_set ?_ GE314.out) | exact HB.out)))⟩; clear hw; clear HO_7; clear HO_10; clear HO_27; clear BK314; clear HB; have HO_7 := n0_; have HO_10 := n1_; have HO_27 := n2_; have BK314 := n3_; have HB := n4_; clear n0_ n1_ n2_ n3_ n4_; have hcz31_0 : w30.cell? ⟨gb314, 0, none⟩ = some (.int .i64 ((rd_T59 l0 x38_2).f0)) := (blk_cell BK314.out 0).trans rfl; have hcz31_1 : w30.cell? ⟨gb314, 1, none⟩ = some (.int .i64 ((rd_T59 l0 x38_2).f1)) := (blk_cell BK314.out 1).trans rfl; have hcz31_2 : w30.cell? ⟨gb314, 2, none⟩ = some (.int .i64 ((rd_T59 l0 x38_2).f2)) := (blk_cell BK314.out 2).trans rfl; have hcz31_3 : w30.cell? ⟨gb314, 3, none⟩ = some (.int .i64 ((rd_T59 l0 x38_2).f3)) := (blk_cell BK314.out 3).trans rfl; have hcz31_4 : w30.cell? ⟨gb314, 4, none⟩ = some (.int .i64 ((rd_T59 l0 x38_2).f4)) := (blk_cell BK314.out 4).trans rfl; have hfz31_0 := blk_frozen BK314.out 0; have hfz31_1 := blk_frozen BK314.out 1; have hfz31_2 := blk_frozen BK314.out 2; have hfz31_3 := blk_frozen BK314.out 3; have hfz31_4 := blk_frozen BK314.out 4; have p27 : 0 ≤ (x38_2 : Int) := of_decide_eq_true (by first | (with_reducible assumption) | assumption); have q27 : (x38_2 : Int) < ((x10_2.length : Int) : Int) := of_decide_eq_true (by first | (with_reducible assumption) | assumption); obtain ⟨go27, co27, eo27, gb27, gl27, cl27, HG27⟩ := Kd.R_form HO_10.out (by omega); (first | cases eo27 | (injection eo27 with ea_ en_ ec_; (first | subst ea_ | (injection ea_ with ea_; subst ea_)); subst ec_; clear en_)); have GB27 := Aside0.mk gb27; have GG27 := Aside0.mk HG27; clear gb27 gl27 HG27; obtain ⟨hx27_0, hf27_0⟩ := Kd.R_celln 0 HO_10.out (x38_2 : Int) p27 q27; replace p27 := eq_true p27; replace q27 := eq_true q27; obtain ⟨hy32_, hz32_⟩ := Kd.R_celln 0 HO_10.out (x38_2 : Int) (of_decide_eq_true (by first | (with_reducible assumption) | assumption)) (of_decide_eq_true (by first | (with_reducible assumption) | assumption)); have HP32 := Kd.R_putg HO_10.out (x38_2 : Int) ((rd_T59 l0 x38_2).f4)) | ((with_reducible refine gate_store (t := 3) (p := 51) rfl ?_); refine store_event (t := 3) (p := 51) (v := ?vo_w33) (w1 := (w30.setCell ⟨go27, (x38_2 : Int).toNat, none⟩ (.int .i64 ((rd_T59 l0 x38_2).f4)))) ?hg ?ho ?hn ?hr ?_; (case ho => rfl); (case hg => rfl); (case hn => rfl); (case hr => first | (go_simp; done) | (go_simp; rfl)); intro w33 hw; have hg : w30.grownBy w33 (some go27) := (by rw [hw]; exact HP32.2); have hp_ : Kd.R (Kd.int .i64) 3 w33 w.heap.size (fun k_ => some k_ ≠ (v304 : Value).ownBlock ∧ some k_ ≠ (.slice (some ad309) x27_1.length co14 : Value).ownBlock) (.slice (some ⟨go27, 0, none⟩) x10_2.length co27) y315 := (by rw [hw, Ny315.out]; exact HP32.1); clear HP32; have n0_ := Aside0.mk (Kd.R_after (v := (.slice (some ⟨go27, 0, none⟩) x10_2.length co27)) (v1 := (.slice (some ⟨go27, 0, none⟩) x10_2.length co27)) (ok := (fun k_ => some k_ ≠ (.slice (some ad309) x27_1.length co14 : Value).ownBlock)) (by (with_reducible repeat (first | apply Kd.R_alloc | apply Kd.R_drewN | apply Kd.R_drew)); exact Kd.R_mono HO_7.out (fun _ hk => ⟨hk.2, hk.1⟩)) hg (.inl rfl)); have n1_ := Aside0.mk (hp_); have n2_ := Aside0.mk (Kd.R_after (v := (.slice (some ⟨go27, 0, none⟩) x10_2.length co27)) (v1 := (.slice (some ⟨go27, 0, none⟩) x10_2.length co27)) (ok := (fun k_ => some k_ ≠ (v304 : Value).ownBlock)) (by (with_reducible repeat (first | apply Kd.R_alloc | apply Kd.R_drewN | apply Kd.R_drew)); exact HO_27.out) hg (.inl rfl)); have n3_ := Aside0.mk (blk_grown (g := gb314) (o := .cells #[.int .i64 ((rd_T59 l0 x38_2).f0), .int .i64 ((rd_T59 l0 x38_2).f1), .int .i64 ((rd_T59 l0 x38_2).f2), .int .i64 ((rd_T59 l0 x38_2).f3), .int .i64 ((rd_T59 l0 x38_2).f4)] 59 (0, 0)) (by (with_reducible repeat (first | refine blk_drewN ?_ _ | refine blk_drew ?_ | refine blk_alloc ?_ _)); exact BK314.out) hg (Kd.R_ne HO_10.out BK314.out (by decide))); have n4_ := Aside0.mk ((by rw [hw]; exact below_set (HB.out) GB27.out : Below w.heap.size w w33)); clear HO_7; clear HO_10; clear HO_27; clear BK314; clear HB; have HO_7 := n0_; have HO_10 := n1_; have HO_27 := n2_; have BK314 := n3_; have HB := n4_; clear n0_ n1_ n2_ n3_ n4_; clear hg hw hp_; have hcz34_0 : w33.cell? ⟨gb314, 0, none⟩ = some (.int .i64 ((rd_T59 l0 x38_2).f0)) := (blk_cell BK314.out 0).trans rfl; have hcz34_1 : w33.cell? ⟨gb314, 1, none⟩ = some (.int .i64 ((rd_T59 l0 x38_2).f1)) := (blk_cell BK314.out 1).trans rfl; have hcz34_2 : w33.cell? ⟨gb314, 2, none⟩ = some (.int .i64 ((rd_T59 l0 x38_2).f2)) := (blk_cell BK314.out 2).trans rfl; have hcz34_3 : w33.cell? ⟨gb314, 3, none⟩ = some (.int .i64 ((rd_T59 l0 x38_2).f3)) := (blk_cell BK314.out 3).trans rfl; have hcz34_4 : w33.cell? ⟨gb314, 4, none⟩ = some (.int .i64 ((rd_T59 l0 x38_2).f4)) := (blk_cell BK314.out 4).trans rfl; have hfz34_0 := blk_frozen BK314.out 0; have hfz34_1 := blk_frozen BK314.out 1; have hfz34_2 := blk_frozen BK314.out 2; have hfz34_3 := blk_frozen BK314.out 3; have hfz34_4 := blk_frozen BK314.out 4))
                   go_roundg k2
                   case measure => have := HK1.out; have := HK2.out; omega
                   case rel => exact ⟨(y315), (wrap64 (x11_2 + ((rd_T59 l0 x38_2).f4))), (wrap64 (x38_2 + 1)), (by first | rfl | (simp; done) | (simp [*]; done)), (by first | rfl | (simp; done) | (simp [*]; done)), H', ⟨by have := HK1.out; have := HK2.out; omega⟩, ⟨by (try simp only [hl27_1]); (with_reducible repeat (first | apply Kd.R_alloc | apply Kd.R_drewN | apply Kd.R_drew)); exact Kd.R_mono HO_7.out (fun _ hk => ⟨hk.2, hk.1⟩)⟩, ⟨by (try simp only [hl27_1]); (with_reducible repeat (first | apply Kd.R_alloc | apply Kd.R_drewN | apply Kd.R_drew)); exact HO_10.out⟩, ⟨by (try simp only [hl27_1]); (with_reducible repeat (first | apply Kd.R_alloc | apply Kd.R_drewN | apply Kd.R_drew)); exact HO_27.out⟩, ⟨by repeat (first | (with_reducible first | exact HB.out | apply below_alloc | apply pw_below_drewN | apply below_drew1 | refine below_set ?_ GE314.out) | exact HB.out)⟩⟩
                  ·rw [if_neg c26] at H
                   exact absurd H (by simp)
                 ·rw [if_neg c25] at H
                  have c25b0 : (((rd_T59 l0 x38_2).f3) == (rd x27_1 x29_1)) = false := beq_eq_false_iff_ne.mpr c25
                  have c25b1 : (((rd_T59 l0 x38_2).f3) != (rd x27_1 x29_1)) = true := bne_iff_ne.mpr c25
                  have H' := Aside0.mk H
                  clear H
                  have p313 : 0 ≤ (x38_2 : Int) := of_decide_eq_true (by first | (with_reducible assumption) | assumption)
                  have q313 : x38_2 < (l0.length : Int) := of_decide_eq_true (by first | (with_reducible assumption) | assumption)
                  obtain ⟨ad313, e313, hx313_0, hx313_1, hx313_2, hx313_3, hx313_4⟩ := at_T59 HR0.out x38_2 p313 q313
                  cases e313
                  replace hx313_0 := (HB.out.cell (World.block_lt_of_cell? w _ hx313_0)).trans hx313_0
                  replace hx313_1 := (HB.out.cell (World.block_lt_of_cell? w _ hx313_1)).trans hx313_1
                  replace hx313_2 := (HB.out.cell (World.block_lt_of_cell? w _ hx313_2)).trans hx313_2
                  replace hx313_3 := (HB.out.cell (World.block_lt_of_cell? w _ hx313_3)).trans hx313_3
                  replace hx313_4 := (HB.out.cell (World.block_lt_of_cell? w _ hx313_4)).trans hx313_4
                  replace p313 := eq_true p313
                  replace q313 := eq_true q313
                  go_wp2_with (first | ((with_reducible refine gate_dst (N := 13) rfl ?_); refine box_event ?hg (N := 13) ?hd (cs := #[.int .i64 0, .int .i64 0, .int .i64 0, .int .i64 0, .int .i64 0]) (t := 59) ?hr ?_; (case hd => rfl); (case hg => rfl); (case hr => first | (go_simp; done) | (go_simp; rfl)); intro gb314 hg w35 hbox hb; have n0_ := Aside0.mk (Kd.R_below (by (with_reducible repeat (first | apply Kd.R_alloc | apply Kd.R_drewN | apply Kd.R_drew)); exact HO_7.out) hb); have n1_ := Aside0.mk (Kd.R_below (by (with_reducible repeat (first | apply Kd.R_alloc | apply Kd.R_drewN | apply Kd.R_drew)); exact HO_10.out) hb); have n2_ := Aside0.mk (Kd.R_below (by (with_reducible repeat (first | apply Kd.R_alloc | apply Kd.R_drewN | apply Kd.R_drew)); exact HO_27.out) hb); have n3_ := Aside0.mk (below_step (by repeat (first | (with_reducible first | exact HB.out | apply below_alloc | apply pw_below_drewN | apply below_drew1) | exact HB.out)) hb); have n4_ := Aside0.mk (hbox); have n5_ := Aside0.mk ((by rw [hg]; exact (below_size (by repeat (first | (with_reducible first | exact HB.out | apply below_alloc | apply pw_below_drewN | apply below_drew1) | exact HB.out))) : w.heap.size ≤ gb314)); have n6_ := Aside0.mk ((by rw [hg]; exact (below_size (by repeat (first | (with_reducible first | exact HB.out | apply below_alloc | apply pw_below_drewN | apply below_drew1) | exact HB.out))) : w.heap.size ≤ gb314)); clear HO_7; clear HO_10; clear HO_27; clear HB; have HO_7 := n0_; have HO_10 := n1_; have HO_27 := n2_; have HB := n3_; have BK314 := n4_; have GW314 := n5_; have GE314 := n6_; clear n0_ n1_ n2_ n3_ n4_ n5_ n6_; clear hb hbox hg; have hcz36_0 : w35.cell? ⟨gb314, 0, none⟩ = some (.int .i64 0) := (blk_cell BK314.out 0).trans rfl; have hcz36_1 : w35.cell? ⟨gb314, 1, none⟩ = some (.int .i64 0) := (blk_cell BK314.out 1).trans rfl; have hcz36_2 : w35.cell? ⟨gb314, 2, none⟩ = some (.int .i64 0) := (blk_cell BK314.out 2).trans rfl; have hcz36_3 : w35.cell? ⟨gb314, 3, none⟩ = some (.int .i64 0) := (blk_cell BK314.out 3).trans rfl; have hcz36_4 : w35.cell? ⟨gb314, 4, none⟩ = some (.int .i64 0) := (blk_cell BK314.out 4).trans rfl; have hfz36_0 := blk_frozen BK314.out 0; have hfz36_1 := blk_frozen BK314.out 1; have hfz36_2 := blk_frozen BK314.out 2; have hfz36_3 := blk_frozen BK314.out 3; have hfz36_4 := blk_frozen BK314.out 4))
                  go_roundg k2
                  case measure => have := HK1.out; have := HK2.out; omega
                  case rel => exact ⟨(x10_2), (x11_2), (wrap64 (x38_2 + 1)), (by first | rfl | (simp; done) | (simp [*]; done)), (by first | rfl | (simp; done) | (simp [*]; done)), H', ⟨by have := HK1.out; have := HK2.out; omega⟩, ⟨by (try simp only [hl27_1]); (with_reducible repeat (first | apply Kd.R_alloc | apply Kd.R_drewN | apply Kd.R_drew)); exact Kd.R_mono (Kd.R_far (p := ⟨gb314, 4, none⟩) (Kd.R_far (p := ⟨gb314, 3, none⟩) (Kd.R_far (p := ⟨gb314, 2, none⟩) (Kd.R_far (p := ⟨gb314, 1, none⟩) (Kd.R_far (p := ⟨gb314, 0, none⟩) (Kd.R_types HO_7.out BK314.out (by decide)) (fun _ hk => hk.2) (.int .i64 ((rd_T59 l0 x38_2).f0))) (fun _ hk => hk.2) (.int .i64 ((rd_T59 l0 x38_2).f1))) (fun _ hk => hk.2) (.int .i64 ((rd_T59 l0 x38_2).f2))) (fun _ hk => hk.2) (.int .i64 ((rd_T59 l0 x38_2).f3))) (fun _ hk => hk.2) (.int .i64 ((rd_T59 l0 x38_2).f4))) (fun _ hk => ⟨hk.1.1, hk.1.2⟩)⟩, ⟨by (try simp only [hl27_1]); (with_reducible repeat (first | apply Kd.R_alloc | apply Kd.R_drewN | apply Kd.R_drew)); exact Kd.R_mono (Kd.R_far (p := ⟨gb314, 4, none⟩) (Kd.R_far (p := ⟨gb314, 3, none⟩) (Kd.R_far (p := ⟨gb314, 2, none⟩) (Kd.R_far (p := ⟨gb314, 1, none⟩) (Kd.R_far (p := ⟨gb314, 0, none⟩) (Kd.R_types HO_10.out BK314.out (by decide)) (fun _ hk => hk.2) (.int .i64 ((rd_T59 l0 x38_2).f0))) (fun _ hk => hk.2) (.int .i64 ((rd_T59 l0 x38_2).f1))) (fun _ hk => hk.2) (.int .i64 ((rd_T59 l0 x38_2).f2))) (fun _ hk => hk.2) (.int .i64 ((rd_T59 l0 x38_2).f3))) (fun _ hk => hk.2) (.int .i64 ((rd_T59 l0 x38_2).f4))) (fun _ hk => ⟨hk.1.1, hk.1.2⟩)⟩, ⟨by (try simp only [hl27_1]); (with_reducible repeat (first | apply Kd.R_alloc | apply Kd.R_drewN | apply Kd.R_drew)); exact Kd.R_mono (Kd.R_far (p := ⟨gb314, 4, none⟩) (Kd.R_far (p := ⟨gb314, 3, none⟩) (Kd.R_far (p := ⟨gb314, 2, none⟩) (Kd.R_far (p := ⟨gb314, 1, none⟩) (Kd.R_far (p := ⟨gb314, 0, none⟩) (Kd.R_types HO_27.out BK314.out (by decide)) (fun _ hk => hk.2) (.int .i64 ((rd_T59 l0 x38_2).f0))) (fun _ hk => hk.2) (.int .i64 ((rd_T59 l0 x38_2).f1))) (fun _ hk => hk.2) (.int .i64 ((rd_T59 l0 x38_2).f2))) (fun _ hk => hk.2) (.int .i64 ((rd_T59 l0 x38_2).f3))) (fun _ hk => hk.2) (.int .i64 ((rd_T59 l0 x38_2).f4))) (fun _ hk => ⟨hk.1.1, hk.1.2⟩)⟩, ⟨by repeat (first | (with_reducible first | exact HB.out | apply below_alloc | apply pw_below_drewN | apply below_drew1 | refine below_set ?_ GE314.out) | exact HB.out)⟩⟩
                ·rw [if_neg c24] at H
                 exact absurd H (by simp)
               ·rw [if_neg c23] at H
                exact absurd H (by simp)
              ·rw [if_neg c22] at H
               have c22b0 : decide (x38_2 < (l0.length : Int)) = false := decide_eq_false c22
               (try (have c22bx := c22b0; simp only [hl27_1] at c22bx))
               clear c22
               by_cases c37 : x11_2 = 0
               ·rw [if_pos c37] at H
                have c37b0 : (x11_2 == 0) = true := beq_iff_eq.mpr c37
                have c37b1 : (x11_2 != 0) = false := bne_eq_false_iff_eq.mpr c37
                clear c37
                have H' := Aside0.mk H
                clear H
                go_wp2
                (try simp only [← hl27_1])
                go_roundg k2
                case measure => have := HK1.out; have := HK2.out; omega
                case rel => exact ⟨(x1_1), (x7_1), (x27_1), (wrap64 (x29_1 + 1)), (by first | rfl | (simp; done) | (simp [*]; done)), (by first | rfl | (simp; done) | (simp [*]; done)), H', ⟨by have := HK1.out; have := HK2.out; omega⟩, ⟨by (try simp only [hl27_1]); (with_reducible repeat (first | apply Kd.R_alloc | apply Kd.R_drewN | apply Kd.R_drew)); exact Kd.R_mono HO_7.out (fun _ hk => hk.2)⟩, ⟨by (try simp only [hl27_1]); (with_reducible repeat (first | apply Kd.R_alloc | apply Kd.R_drewN | apply Kd.R_drew)); exact Kd.R_mono HO_27.out (fun _ hk => hk.1)⟩, ⟨by repeat (first | (with_reducible first | exact HB.out | apply below_alloc | apply pw_below_drewN | apply below_drew1) | exact HB.out)⟩⟩
               ·rw [if_neg c37] at H
                have c37b0 : (x11_2 == 0) = false := beq_eq_false_iff_ne.mpr c37
                have c37b1 : (x11_2 != 0) = true := bne_iff_ne.mpr c37
                obtain ⟨ji38, hji38⟩ : ∃ j_ : Int, (mn x11_2 x1_1) = j_ := ⟨_, rfl⟩
                replace H : ((cap_split.f k2 (ji38) x11_2 x10_2).bind fun t316 => (cap_Budget.l2 k2 l0 x1_1 x7_1 x11_2 x27_1 (t306.length : Int) x29_1 t316 (t316.length : Int) 0)) = some (r1, r2) := by first | (rw [hji38] at H; exact H) | (simp only [hji38] at H ⊢; exact H)
                have hji38_ : (if x1_1 < x11_2 then x1_1 else x11_2) = ji38 := hji38
                replace H := Option.bind_eq_some_iff.mp H
                obtain ⟨t316, A390, H⟩ := H
                replace H : (cap_Budget.l2 k2 l0 x1_1 x7_1 x11_2 x27_1 (t306.length : Int) x29_1 t316 (t316.length : Int) 0) = some (r1, r2) := H
                have A39 := Aside0.mk A390
                clear A390
                have H' := Aside0.mk H
                clear H
                obtain ⟨Ao40, co40, eo40⟩ := Kd.R_slice HO_10.out
                subst eo40
                go_wp2_with (first | ((with_reducible refine gate_callee (f := 52) rfl ?_); refine goesL_ (some 64) rfl rfl Try.func52 (by kernel_rfl) rfl #[.int .i64 ji38, .int .i64 x11_2, .slice Ao40 x10_2.length co40] rfl (by (try simp only [List.map_toArray, List.map_cons, List.map_nil]); first | done | (simp only [hji38]; rfl) | rfl | (simp only [List.length_drop, List.length_take]; rfl)) ?_; (with_reducible refine (cap_split.calls k2 ji38 x11_2 _ _ x10_2 t316 _ ?side1 ?side2 A39.out).mono ?_); (case side1 => repeat (first | exact (Kd.R_reads' HO_10.out).2.2 | (with_reducible refine Kd.C_alloc ?_ _) | (with_reducible refine Kd.C_drewN ?_ _) | (with_reducible refine Kd.C_drew ?_))); (case side2 => exact (Kd.R_reads' HO_10.out).2.1); rintro e w41 ⟨v317, rfl, ho0, hb⟩; refine ⟨_, rfl, ?_⟩; have n0_ := Aside0.mk (Kd.R_elder' (by (with_reducible repeat (first | apply Kd.R_alloc | apply Kd.R_drewN | apply Kd.R_drew)); exact HO_7.out) (Kd.R_base ho0) hb); have n1_ := Aside0.mk (Kd.R_elder' (by (with_reducible repeat (first | apply Kd.R_alloc | apply Kd.R_drewN | apply Kd.R_drew)); exact HO_10.out) (Kd.R_base ho0) hb); have n2_ := Aside0.mk (Kd.R_elder' (by (with_reducible repeat (first | apply Kd.R_alloc | apply Kd.R_drewN | apply Kd.R_drew)); exact HO_27.out) (Kd.R_base ho0) hb); have n3_ := Aside0.mk (Kd.R_lower (Kd.R_new' (Kd.R_new' (Kd.R_new' ho0 (Kd.R_lt (by (with_reducible repeat (first | apply Kd.R_alloc | apply Kd.R_drewN | apply Kd.R_drew)); exact HO_7.out))) (Kd.R_lt (by (with_reducible repeat (first | apply Kd.R_alloc | apply Kd.R_drewN | apply Kd.R_drew)); exact HO_10.out))) (Kd.R_lt (by (with_reducible repeat (first | apply Kd.R_alloc | apply Kd.R_drewN | apply Kd.R_drew)); exact HO_27.out))) (below_size (by repeat (first | (with_reducible first | exact HB.out | apply below_alloc | apply pw_below_drewN | apply below_drew1) | exact HB.out)))); have n4_ := Aside0.mk (below_step (by repeat (first | (with_reducible first | exact HB.out | apply below_alloc | apply pw_below_drewN | apply below_drew1) | exact HB.out)) hb); clear HO_7; clear HO_10; clear HO_27; clear HB; have HO_7 := n0_; have HO_10 := n1_; have HO_27 := n2_; have HO318 := n3_; have HB := n4_; clear n0_ n1_ n2_ n3_ n4_; (try clear hb); (try clear hb2); (try clear hk); (try clear hi); (try clear ho0); obtain ⟨Ao42, co42, eo42⟩ := Kd.R_slice HO318.out; subst eo42))
                go_loopg [66] k2 (fun kq v66 w' => ∃ (x7_3 : List Int) (x66_3 : Int), v66 = .int .i64 x66_3 ∧ Aside0 (cap_Budget.l2 kq l0 x1_1 x7_3 x11_2 x27_1 (t306.length : Int) x29_1 t316 (t316.length : Int) x66_3 = some (r1, r2)) ∧ Aside0 (kq ≤ k2) ∧ Aside0 (Kd.R (Kd.int .i64) 3 w' w.heap.size (fun k_ => some k_ ≠ ((.slice (some ad309) x27_1.length co14) : Value).ownBlock ∧ some k_ ≠ ((.slice Ao42 t316.length co42) : Value).ownBlock) v304 x7_3) ∧ Aside0 (Kd.R (Kd.int .i64) 3 w' w.heap.size (fun k_ => some k_ ≠ (v304 : Value).ownBlock ∧ some k_ ≠ ((.slice Ao42 t316.length co42) : Value).ownBlock) (.slice (some ad309) x27_1.length co14) x27_1) ∧ Aside0 (Kd.R (Kd.int .i64) 3 w' w.heap.size (fun k_ => some k_ ≠ (v304 : Value).ownBlock ∧ some k_ ≠ ((.slice (some ad309) x27_1.length co14) : Value).ownBlock) (.slice Ao42 t316.length co42) t316) ∧ Aside0 (Below w.heap.size w w'))
                case atStart => exact ⟨(x7_1), (0), (by first | rfl | (simp; done) | (simp [*]; done)), H', ⟨Nat.le_refl _⟩, ⟨by (try simp only [hl27_1]); (with_reducible repeat (first | apply Kd.R_alloc | apply Kd.R_drewN | apply Kd.R_drew)); exact Kd.R_mono HO_7.out (fun _ hk => ⟨hk.1.2, hk.2⟩)⟩, ⟨by (try simp only [hl27_1]); (with_reducible repeat (first | apply Kd.R_alloc | apply Kd.R_drewN | apply Kd.R_drew)); exact Kd.R_mono HO_27.out (fun _ hk => ⟨hk.1.1, hk.2⟩)⟩, ⟨by (try simp only [hl27_1]); (with_reducible repeat (first | apply Kd.R_alloc | apply Kd.R_drewN | apply Kd.R_drew)); exact Kd.R_mono HO318.out (fun _ hk => ⟨hk.1.1.2, hk.2⟩)⟩, ⟨by repeat (first | (with_reducible first | exact HB.out | apply below_alloc | apply pw_below_drewN | apply below_drew1) | exact HB.out)⟩⟩
                case round =>
                 clear H'
                 try clear c1
                 try clear c2
                 try clear p2
                 try clear q2
                 try clear hx2
                 try clear hf2
                 try clear c3
                 try clear p3
                 try clear q3
                 try clear hx3
                 try clear c4
                 try clear c4b0
                 try clear c4b1
                 try clear c5
                 try clear c5b0
                 try clear p6
                 try clear c7
                 try clear c7b0
                 try clear c7b1
                 try clear c8
                 try clear c8b0
                 try clear c8b1
                 try clear c15
                 try clear c15b0
                 try clear c16
                 try clear c16b0
                 try clear c17
                 try clear c17b0
                 try clear c18
                 try clear c18b0
                 try clear c18b1
                 try clear c19
                 try clear c19b0
                 try clear c19b1
                 try clear c22
                 try clear c22b0
                 try clear c23
                 try clear c23b0
                 try clear c24
                 try clear c24b0
                 try clear c25
                 try clear c25b0
                 try clear c25b1
                 try clear c26
                 try clear c26b0
                 try clear p27
                 try clear q27
                 try clear hx27
                 try clear hf27
                 try clear p30
                 try clear q30
                 try clear hx30
                 try clear p31
                 try clear q31
                 try clear hx31
                 try clear c33
                 try clear c37
                 try clear c37b0
                 try clear c37b1
                 try clear c39
                 try clear hcz29_0
                 try clear hcz29_1
                 try clear hcz29_2
                 try clear hcz29_3
                 try clear hcz29_4
                 try clear hcz31_0
                 try clear hcz31_1
                 try clear hcz31_2
                 try clear hcz31_3
                 try clear hcz31_4
                 try clear hcz34_0
                 try clear hcz34_1
                 try clear hcz34_2
                 try clear hcz34_3
                 try clear hcz34_4
                 try clear hcz36_0
                 try clear hcz36_1
                 try clear hcz36_2
                 try clear hcz36_3
                 try clear hcz36_4
                 try clear hfz29_0
                 try clear hfz29_1
                 try clear hfz29_2
                 try clear hfz29_3
                 try clear hfz29_4
                 try clear hfz31_0
                 try clear hfz31_1
                 try clear hfz31_2
                 try clear hfz31_3
                 try clear hfz31_4
                 try clear hfz34_0
                 try clear hfz34_1
                 try clear hfz34_2
                 try clear hfz34_3
                 try clear hfz34_4
                 try clear hfz36_0
                 try clear hfz36_1
                 try clear hfz36_2
                 try clear hfz36_3
                 try clear hfz36_4
                 try clear hx27_0
                 try clear hx309_0
                 try clear hx313_0
                 try clear hx313_1
                 try clear hx313_2
                 try clear hx313_3
                 try clear hx313_4
                 try clear p2
                 try clear p27
                 try clear p3
                 try clear p309
                 try clear p313
                 try clear q27
                 try clear q3
                 try clear q309
                 try clear q313
                 obtain ⟨x7_3, x66_3, rfl, HA, HK3, HO_7, HO_27, HO_64, HB⟩ := hrel
                 cases gk with
                 | zero => exact absurd HA.out (by simp [cap_Budget.l2])
                 | succ k3 =>
                  have H := HA.out
                  clear HA
                  simp only [cap_Budget.l2] at H
                  by_cases c43 : x66_3 < (t316.length : Int)
                  ·rw [if_pos c43] at H
                   have c43b0 : decide (x66_3 < (t316.length : Int)) = true := decide_eq_true c43
                   (try (have c43bx := c43b0; simp only [hl27_1] at c43bx))
                   clear c43
                   by_cases c44 : 0 ≤ x66_3
                   ·rw [if_pos c44] at H
                    have c44b0 : decide (0 ≤ x66_3) = true := decide_eq_true c44
                    clear c44
                    by_cases c45 : x66_3 < (t316.length : Int)
                    ·rw [if_pos c45] at H
                     have c45b0 : decide (x66_3 < (t316.length : Int)) = true := decide_eq_true c45
                     (try (have c45bx := c45b0; simp only [hl27_1] at c45bx))
                     clear c45
                     by_cases c46 : x66_3 < (x7_3.length : Int)
                     ·rw [if_pos c46] at H
                      have c46b0 : decide (x66_3 < (x7_3.length : Int)) = true := decide_eq_true c46
                      (try (have c46bx := c46b0; simp only [hl27_1] at c46bx))
                      clear c46
                      obtain ⟨y321, hy321⟩ : ∃ y_ : List Int, y_ = (x7_3.set (x66_3 : Int).toNat (wrap64 ((rd x7_3 x66_3) + (rd t316 x66_3)))) := ⟨_, rfl⟩
                      replace H : (cap_Budget.l2 k3 l0 x1_1 y321 x11_2 x27_1 (t306.length : Int) x29_1 t316 (t316.length : Int) (wrap64 (x66_3 + 1))) = some (r1, r2) := by first | (rw [hy321]; with_reducible exact H) | (have H2_ := (Option.bind_some _ _).symm.trans H; rw [hy321]; with_reducible exact H2_) | (have H2_ := (Option.bind_some _ _).symm.trans H; with_reducible exact H2_) | with_reducible exact H | (rw [hy321]; exact H) | exact H
                      have Ny321 := Aside0.mk hy321
                      clear hy321
                      have H' := Aside0.mk H
                      clear H
                      have p319 : 0 ≤ (x66_3 : Int) := of_decide_eq_true (by first | (with_reducible assumption) | assumption)
                      have q319 : x66_3 < (t316.length : Int) := of_decide_eq_true (by first | (with_reducible assumption) | assumption)
                      obtain ⟨ad319, e319, hx319_0⟩ := Kd.at_int (Kd.R_reads' HO_64.out).2.2 x66_3 p319 q319
                      cases e319
                      replace p319 := eq_true p319
                      replace q319 := eq_true q319
                      obtain ⟨Ao48, co48, eo48⟩ := Kd.R_slice HO_7.out
                      subst eo48
                      have p320 : 0 ≤ (x66_3 : Int) := of_decide_eq_true (by first | (with_reducible assumption) | assumption)
                      have q320 : x66_3 < (x7_3.length : Int) := of_decide_eq_true (by first | (with_reducible assumption) | assumption)
                      obtain ⟨ad320, e320, hx320_0⟩ := Kd.at_int (Kd.R_reads' HO_7.out).2.2 x66_3 p320 q320
                      cases e320
                      replace p320 := eq_true p320
                      replace q320 := eq_true q320
                      have p47 : 0 ≤ (x66_3 : Int) := of_decide_eq_true (by first | (with_reducible assumption) | assumption)
                      have q47 : (x66_3 : Int) < ((x7_3.length : Int) : Int) := of_decide_eq_true (by first | (with_reducible assumption) | assumption)
                      obtain ⟨go47, co47, eo47, gb47, gl47, cl47, HG47⟩ := Kd.R_form HO_7.out (by omega)
                      (first | cases eo47 | (injection eo47 with ea_ en_ ec_; (first | subst ea_ | (injection ea_ with ea_; subst ea_)); subst ec_; clear en_))
                      have GB47 := Aside0.mk gb47
                      have GG47 := Aside0.mk HG47
                      clear gb47 gl47 HG47
                      (first | simp only [add_plain] at hx320_0 | skip)
                      obtain ⟨hx47_0, hf47_0⟩ := Kd.R_celln 0 HO_7.out (x66_3 : Int) p47 q47
                      replace p47 := eq_true p47
                      replace q47 := eq_true q47
                      have HP49 := Kd.R_putg HO_7.out (x66_3 : Int) (wrap64 ((rd x7_3 x66_3) + (rd t316 x66_3)))
                      go_wp2_with (first | ((with_reducible refine gate_store (t := 3) (p := 77) rfl ?_); refine store_event (t := 3) (p := 77) (v := ?vo_w50) (w1 := (wr.setCell ⟨go47, (x66_3 : Int).toNat, none⟩ (.int .i64 (wrap64 ((rd x7_3 x66_3) + (rd t316 x66_3)))))) ?hg ?ho ?hn ?hr ?_; (case ho => rfl); (case hg => rfl); (case hn => rfl); (case hr => first | (go_simp; done) | (go_simp; rfl)); intro w50 hw; have hg : wr.grownBy w50 (some go47) := (by rw [hw]; exact HP49.2); have hp_ : Kd.R (Kd.int .i64) 3 w50 w.heap.size (fun k_ => some k_ ≠ (.slice (some ad309) x27_1.length co14 : Value).ownBlock ∧ some k_ ≠ (.slice (some ad319) t316.length co42 : Value).ownBlock) (.slice (some ⟨go47, 0, none⟩) x7_3.length co48) y321 := (by rw [hw, Ny321.out]; exact HP49.1); clear HP49; have n0_ := Aside0.mk (hp_); have n1_ := Aside0.mk (Kd.R_after (v := (.slice (some ⟨go47, 0, none⟩) x7_3.length co48)) (v1 := (.slice (some ⟨go47, 0, none⟩) x7_3.length co48)) (ok := (fun k_ => some k_ ≠ (.slice (some ad319) t316.length co42 : Value).ownBlock)) (by (with_reducible repeat (first | apply Kd.R_alloc | apply Kd.R_drewN | apply Kd.R_drew)); exact Kd.R_mono HO_27.out (fun _ hk => ⟨hk.2, hk.1⟩)) hg (.inl rfl)); have n2_ := Aside0.mk (Kd.R_after (v := (.slice (some ⟨go47, 0, none⟩) x7_3.length co48)) (v1 := (.slice (some ⟨go47, 0, none⟩) x7_3.length co48)) (ok := (fun k_ => some k_ ≠ (.slice (some ad309) x27_1.length co14 : Value).ownBlock)) (by (with_reducible repeat (first | apply Kd.R_alloc | apply Kd.R_drewN | apply Kd.R_drew)); exact Kd.R_mono HO_64.out (fun _ hk => ⟨hk.2, hk.1⟩)) hg (.inl rfl)); have n3_ := Aside0.mk ((by rw [hw]; exact below_set (HB.out) GB47.out : Below w.heap.size w w50)); clear HO_7; clear HO_27; clear HO_64; clear HB; have HO_7 := n0_; have HO_27 := n1_; have HO_64 := n2_; have HB := n3_; clear n0_ n1_ n2_ n3_; clear hg hw hp_))
                      go_roundg k3
                      case measure => have := HK1.out; have := HK2.out; have := HK3.out; omega
                      case rel => exact ⟨(y321), (wrap64 (x66_3 + 1)), (by first | rfl | (simp; done) | (simp [*]; done)), H', ⟨by have := HK1.out; have := HK2.out; have := HK3.out; omega⟩, ⟨by (try simp only [hl27_1]); (with_reducible repeat (first | apply Kd.R_alloc | apply Kd.R_drewN | apply Kd.R_drew)); exact HO_7.out⟩, ⟨by (try simp only [hl27_1]); (with_reducible repeat (first | apply Kd.R_alloc | apply Kd.R_drewN | apply Kd.R_drew)); exact Kd.R_mono HO_27.out (fun _ hk => ⟨hk.2, hk.1⟩)⟩, ⟨by (try simp only [hl27_1]); (with_reducible repeat (first | apply Kd.R_alloc | apply Kd.R_drewN | apply Kd.R_drew)); exact Kd.R_mono HO_64.out (fun _ hk => ⟨hk.2, hk.1⟩)⟩, ⟨by repeat (first | (with_reducible first | exact HB.out | apply below_alloc | apply pw_below_drewN | apply below_drew1) | exact HB.out)⟩⟩
                     ·rw [if_neg c46] at H
                      exact absurd H (by simp)
                    ·rw [if_neg c45] at H
                     exact absurd H (by simp)
                   ·rw [if_neg c44] at H
                    exact absurd H (by simp)
                  ·rw [if_neg c43] at H
                   have c43b0 : decide (x66_3 < (t316.length : Int)) = false := decide_eq_false c43
                   (try (have c43bx := c43b0; simp only [hl27_1] at c43bx))
                   clear c43
                   obtain ⟨ji51, hji51⟩ : ∃ j_ : Int, (mn x11_2 x1_1) = j_ := ⟨_, rfl⟩
                   replace H : (cap_Budget.l0 k3 l0 (wrap64 (x1_1 - (ji51))) x7_3 x27_1 (t306.length : Int) (wrap64 (x29_1 + 1))) = some (r1, r2) := by first | (rw [hji51] at H; exact H) | (simp only [hji51] at H ⊢; exact H)
                   have hji51_ : (if x1_1 < x11_2 then x1_1 else x11_2) = ji51 := hji51
                   (try (have hji38kji51 := hji38; rw [hji51] at hji38kji51))
                   (try (have hji38wkji51 := hji38w; rw [hji51] at hji38wkji51))
                   have H' := Aside0.mk H
                   clear H
                   go_wp2
                   (try simp only [← hl27_1])
                   go_roundg k3
                   case measure => have := HK1.out; have := HK2.out; have := HK3.out; omega
                   case rel => exact ⟨(wrap64 (x1_1 - (ji51))), (x7_3), (x27_1), (wrap64 (x29_1 + 1)), (by first | rfl | (simp; done) | (first | (simp only [hji38kji51]; done) | (simp only [hji38kji51]; rfl) | (simp only [← hji51] <;> (first | rfl | simp))) | (simp [*]; done)), (by first | rfl | (simp; done) | (simp [*]; done)), H', ⟨by have := HK1.out; have := HK2.out; have := HK3.out; omega⟩, ⟨by (try simp only [hl27_1]); (with_reducible repeat (first | apply Kd.R_alloc | apply Kd.R_drewN | apply Kd.R_drew)); exact Kd.R_mono HO_7.out (fun _ hk => hk.1)⟩, ⟨by (try simp only [hl27_1]); (with_reducible repeat (first | apply Kd.R_alloc | apply Kd.R_drewN | apply Kd.R_drew)); exact Kd.R_mono HO_27.out (fun _ hk => hk.1)⟩, ⟨by repeat (first | (with_reducible first | exact HB.out | apply below_alloc | apply pw_below_drewN | apply below_drew1) | exact HB.out)⟩⟩
           ·rw [if_neg c19] at H
            exact absurd H (by simp)
          ·rw [if_neg c18] at H
           exact absurd H (by simp)
         ·rw [if_neg c17] at H
          exact absurd H (by simp)
        ·rw [if_neg c16] at H
         exact absurd H (by simp)
       ·rw [if_neg c15] at H
        have c15b0 : decide (x29_1 < (t306.length : Int)) = false := decide_eq_false c15
        (try (have c15bx := c15b0; simp only [hl27_1] at c15bx))
        clear c15
        simp only [Option.some.injEq, Prod.mk.injEq] at H
        obtain ⟨rfl, rfl⟩ := H
        go_wp2
        go_ret2
        exact ⟨_, by first | rfl | (simp [errW_none, errW_some] <;> rfl) | (simp [*, errW_none, errW_some] <;> rfl), by (with_reducible repeat (first | apply Kd.R_alloc | apply Kd.R_drewN | apply Kd.R_drew)); exact Kd.R_mono HO_7.out (fun _ hk => trivial), by repeat (first | (with_reducible first | exact HB.out | apply below_alloc | apply pw_below_drewN | apply below_drew1) | exact HB.out)⟩
    ·rw [if_neg c8] at H
     exact absurd H (by simp)
   ·rw [if_neg c7] at H
    exact absurd H (by simp)
 ·rw [if_neg c4] at H
  have c4b0 : (t302 == 0) = false := beq_eq_false_iff_ne.mpr c4
  have c4b1 : (t302 != 0) = true := bne_iff_ne.mpr c4
  simp only [Option.some.injEq, Prod.mk.injEq] at H
  obtain ⟨rfl, rfl⟩ := H
  go_enter Try.func33, Try.ntmps33
  go_wp2_with (first | ((with_reducible refine gate_callee (f := 39) rfl ?_); refine goesL_ (some 17) rfl rfl Try.func39 (by kernel_rfl) rfl #[.slice A0 l0.length c0] rfl (by (try simp only [List.map_toArray, List.map_cons, List.map_nil]); first | done | rfl | (simp only [List.length_drop, List.length_take]; rfl)) ?_; (with_reducible refine (cap_Check.calls k _ _ l0 t302 _ ?side1 ?side2 A3.out).mono ?_); (case side1 => repeat (first | exact HR0.out | (with_reducible refine Kd.C_alloc ?_ _) | (with_reducible refine Kd.C_drewN ?_ _) | (with_reducible refine Kd.C_drew ?_))); (case side2 => exact HC0.out); rintro e w52 ⟨rfl, hb⟩; refine ⟨_, rfl, ?_⟩; have n0_ := Aside0.mk (below_step (by repeat (first | (with_reducible first | exact HB.out | apply below_alloc | apply pw_below_drewN | apply below_drew1) | exact HB.out)) hb); clear HB; have HB := n0_; clear n0_; (try clear hb); (try clear hb2); (try clear hk); (try clear hi)))
  go_ret2
  exact ⟨_, by first | rfl | (simp [errW_none, errW_some] <;> rfl) | (simp [*, errW_none, errW_some] <;> rfl), by first | exact Kd.R_nil _ _ _ _ _ | exact Kd.N_nil _ _ _ _ _ | exact Kd.V_nil _ _ _ _ _ | exact Kd.Q_nil _ _ _ _ _ | exact Kd.S_nil _ _ _ _ _, by repeat (first | (with_reducible first | exact HB.out | apply below_alloc | apply pw_below_drewN | apply below_drew1) | exact HB.out)⟩

end Go.Proofs.Ytbcaaocogphdeaa.PCap
