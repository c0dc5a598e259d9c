-- Printed by this session's wip/myprint.py.
import Derived.Test.YtenhnlclnjnboaaPAllx0
import Derived.Test.YtenhnlclnjnboaaPAllx23
namespace Go.Proofs.Ytenhnlclnjnboaa.PAll
open Go.RowKit Go.Proofs.YtenhnlclnjnboaaW.PrintWords Go.Proofs.YtenhnlclnjnboaaW.PrintLast Go.Proofs.YtenhnlclnjnboaaW.PrintMore
attribute [local go_sem] max2_int min2_int max_two min_two max_three min_three max_four min_four   -- for this text's walks alone
set_option linter.unusedVariables false
set_option linter.unusedSimpArgs false

/-! ### mootlaw4_moved: function 22 -/
mutual
def mootlaw4_moved.l0 : Nat → List (S35) → Int → Int → Int → Int → Option (Int × Int)
  | 0, _, _, _, _, _ => none
  | k + 1, x0, x1, x8, x9, x10 => if x10 ≥ 0 then (if 0 ≤ x10 then (if x10 < (x0.length : Int) then ((mootlaw4_LedgerCloses_1.f ((rd_T35 x0 x10).f0)).bind fun t211 => (if t211 = true then (mootlaw4_moved.j1 k x0 x1 x8 x9 x10 (((rd_T35 x0 x10).f2) == x1)) else (mootlaw4_moved.j1 k x0 x1 x8 x9 x10 false))) else (none)) else (none)) else (some (x8, x9))
def mootlaw4_moved.j1 : Nat → List (S35) → Int → Int → Int → Int → Bool → Option (Int × Int)
  | 0, _, _, _, _, _, _ => none
  | k + 1, x0, x1, x8, x9, x10, x33 => if x33 = true then (if 0 ≤ x10 then (if x10 < (x0.length : Int) then ((mootlaw4_LedgerCloses_1.f ((rd_T35 x0 x10).f0)).bind fun t215 => (if t215 = true then (if ((rd_T35 x0 x10).f1) = x1 then (mootlaw4_moved.l0 k x0 x1 (wrap64 (x8 + ((rd_T35 x0 x10).f3))) (wrap64 (x9 + ((rd_T35 x0 x10).f3))) (wrap64 (x10 - 1))) else (mootlaw4_moved.l0 k x0 x1 (wrap64 (x8 + ((rd_T35 x0 x10).f3))) x9 (wrap64 (x10 - 1)))) else (mootlaw4_moved.l0 k x0 x1 (wrap64 (x8 + ((rd_T35 x0 x10).f3))) x9 (wrap64 (x10 - 1))))) else (none)) else (none)) else (if 0 ≤ x10 then (if x10 < (x0.length : Int) then ((mootlaw4_LedgerCloses_1.f ((rd_T35 x0 x10).f0)).bind fun t219 => (if t219 = true then (if ((rd_T35 x0 x10).f1) = x1 then (mootlaw4_moved.l0 k x0 x1 x8 (wrap64 (x9 + ((rd_T35 x0 x10).f3))) (wrap64 (x10 - 1))) else (mootlaw4_moved.l0 k x0 x1 x8 x9 (wrap64 (x10 - 1)))) else (mootlaw4_moved.l0 k x0 x1 x8 x9 (wrap64 (x10 - 1))))) else (none)) else (none))
end
def mootlaw4_moved.f (k : Nat) (l0 : List (S35)) (a1 : Int)  : Option (Int × Int) := mootlaw4_moved.l0 k l0 a1 0 0 (wrap64 ((l0.length : Int) - 1))
theorem mootlaw4_moved.mono_l : ∀ k, (∀ y0 y1 y2 y3 y4, LeO (mootlaw4_moved.l0 k y0 y1 y2 y3 y4) (mootlaw4_moved.l0 (k + 1) y0 y1 y2 y3 y4)) ∧ (∀ y0 y1 y2 y3 y4 y5, LeO (mootlaw4_moved.j1 k y0 y1 y2 y3 y4 y5) (mootlaw4_moved.j1 (k + 1) y0 y1 y2 y3 y4 y5))
  | 0 => ⟨fun _ _ _ _ _ r h => by simp [mootlaw4_moved.l0] at h, fun _ _ _ _ _ _ r h => by simp [mootlaw4_moved.j1] at h⟩
  | k + 1 => by
    obtain ⟨ih0, ih1⟩ := mootlaw4_moved.mono_l k
    refine ⟨?_, ?_⟩
    · intro y0 y1 y2 y3 y4
      unfold mootlaw4_moved.l0
      repeat' first
      | (with_reducible exact ih0 _ _ _ _ _)
      | (with_reducible exact ih1 _ _ _ _ _ _)
      | (with_reducible exact LeO.refl _)
      | (with_reducible exact LeO.none _)
      | (with_reducible refine LeO.ite ?_ ?_)
      | (with_reducible refine LeO.bind ?_ (fun _ => ?_))
      | exact ih0 _ _ _ _ _
      | exact ih1 _ _ _ _ _ _
      | exact LeO.none _
      | refine LeO.ite ?_ ?_
      | refine LeO.bind ?_ (fun _ => ?_)
    · intro y0 y1 y2 y3 y4 y5
      unfold mootlaw4_moved.j1
      repeat' first
      | (with_reducible exact ih0 _ _ _ _ _)
      | (with_reducible exact ih1 _ _ _ _ _ _)
      | (with_reducible exact LeO.refl _)
      | (with_reducible exact LeO.none _)
      | (with_reducible refine LeO.ite ?_ ?_)
      | (with_reducible refine LeO.bind ?_ (fun _ => ?_))
      | exact ih0 _ _ _ _ _
      | exact ih1 _ _ _ _ _ _
      | exact LeO.none _
      | refine LeO.ite ?_ ?_
      | refine LeO.bind ?_ (fun _ => ?_)
theorem mootlaw4_moved.mono : ∀ a0 a1 k, LeO (mootlaw4_moved.f k a0 a1) (mootlaw4_moved.f (k + 1) a0 a1) := by
  intro a0 a1 k
  obtain ⟨ih0, ih1⟩ := mootlaw4_moved.mono_l k
  unfold mootlaw4_moved.f
  repeat' first
      | (with_reducible exact ih0 _ _ _ _ _)
      | (with_reducible exact ih1 _ _ _ _ _ _)
      | (with_reducible exact LeO.refl _)
      | (with_reducible exact LeO.none _)
      | (with_reducible refine LeO.ite ?_ ?_)
      | (with_reducible refine LeO.bind ?_ (fun _ => ?_))
      | exact ih0 _ _ _ _ _
      | exact ih1 _ _ _ _ _ _
      | exact LeO.none _
      | refine LeO.ite ?_ ?_
      | refine LeO.bind ?_ (fun _ => ?_)
set_option maxHeartbeats 8000000 in
set_option maxRecDepth 100000 in
theorem mootlaw4_moved.calls (k : Nat) (A0 : Option Addr) (c0 : Nat) (l0 : List (S35)) (a1 : Int)  (r1 : Int) (r2 : Int) (w : World) (hr0 : Kd.C k35 w A0 l0.length l0) (hc0 : l0.length ≤ c0) (h : mootlaw4_moved.f k l0 a1 = some (r1, r2)) :
    Calls Try.prog 22 #[.slice A0 l0.length c0, .int .i64 a1, .func (.func 23) #[] #[]] w fun e w' => e = .returned (.tuple #[.int .i64 r1, .int .i64 r2]) ∧ Drawn0 w w' := by
  have HR0 := Aside0.mk hr0
  have HC0 := Aside0.mk hc0
  clear hr0 hc0
  have H : (mootlaw4_moved.l0 k l0 a1 0 0 (wrap64 ((l0.length : Int) - 1))) = some (r1, r2) := h
  clear h
  have H' := Aside0.mk H
  clear H
  go_enter Try.func22, Try.ntmps22
  go_wp2
  go_loopg [8, 9, 10] k (fun kq v8 v9 v10 w' => ∃ (x8_1 : Int) (x9_1 : Int) (x10_1 : Int), v8 = .int .i64 x8_1 ∧ v9 = .int .i64 x9_1 ∧ v10 = .int .i64 x10_1 ∧ Aside0 (mootlaw4_moved.l0 kq l0 a1 x8_1 x9_1 x10_1 = some (r1, r2)) ∧ Aside0 (kq ≤ k) ∧ Drawn0 w w')
  case atStart => exact ⟨(0), (0), (wrap64 ((l0.length : Int) - 1)), (by first | rfl | (simp; done) | (simp [*]; done)), (by first | rfl | (simp; done) | (simp [*]; done)), (by first | rfl | (simp; done) | (simp [*]; done)), H', ⟨Nat.le_refl _⟩, by repeat (first | exact Drawn0.refl _ | apply Drawn0.step)⟩
  case round =>
    clear H'
    try clear c2
    try clear p2
    obtain ⟨x8_1, x9_1, x10_1, rfl, rfl, rfl, HA, HK1, ⟨m1, rfl⟩⟩ := hrel
    cases gk with
    | zero => exact absurd HA.out (by simp [mootlaw4_moved.l0])
    | succ k1 =>
      have H := HA.out
      clear HA
      simp only [mootlaw4_moved.l0] at H
      by_cases c4 : x10_1 ≥ 0
      · rw [if_pos c4] at H
        have c4b0 : decide (0 ≤ x10_1) = true := decide_eq_true c4
        clear c4
        have HC5 := Aside0.mk H
        clear H
        go_upto_region 5 with (fail)
        go_cut [33] (fun v33 wc => ∃ (kq : Nat) (x33_4 : Bool), v33 = .bool x33_4 ∧ Aside0 (mootlaw4_moved.j1 kq l0 a1 x8_1 x9_1 x10_1 x33_4 = some (r1, r2)) ∧ Aside0 (kq ≤ k1) ∧ Drawn0 w wc)
        case first =>
          have H := HC5.out
          clear HC5
          by_cases c6 : 0 ≤ x10_1
          · rw [if_pos c6] at H
            have c6b0 : decide (0 ≤ x10_1) = true := decide_eq_true c6
            clear c6
            (first | rw [c6b0] | (simp only [i64_w, i32_w]; rw [c6b0]) | skip)
            by_cases c7 : x10_1 < (l0.length : Int)
            · rw [if_pos c7] at H
              have c7b0 : decide (x10_1 < (l0.length : Int)) = true := decide_eq_true c7
              clear c7
              replace H := Option.bind_eq_some_iff.mp H
              obtain ⟨t211, A80, H⟩ := H
              replace H : (if t211 = true then (mootlaw4_moved.j1 k1 l0 a1 x8_1 x9_1 x10_1 (((rd_T35 l0 x10_1).f2) == a1)) else (mootlaw4_moved.j1 k1 l0 a1 x8_1 x9_1 x10_1 false)) = some (r1, r2) := H
              have A8 := Aside0.mk A80
              clear A80
              by_cases c9 : t211 = true
              · subst c9
                have H1 : (mootlaw4_moved.j1 k1 l0 a1 x8_1 x9_1 x10_1 (((rd_T35 l0 x10_1).f2) == a1)) = some (r1, r2) := by rw [if_pos rfl] at H; exact H
                clear H
                have H := H1
                clear H1
                have H' := Aside0.mk H
                clear H
                have p210 : 0 ≤ (x10_1 : Int) := of_decide_eq_true (by first | (with_reducible assumption) | assumption)
                have q210 : x10_1 < (l0.length : Int) := of_decide_eq_true (by first | (with_reducible assumption) | assumption)
                obtain ⟨ad210, e210, hx210_0, hx210_1, hx210_2, hx210_3⟩ := at_T35 HR0.out x10_1 p210 q210
                cases e210
                replace p210 := eq_true p210
                replace q210 := eq_true q210
                go_wp2_with (first | (go_at_call 23; (with_reducible refine (mootlaw4_LedgerCloses_1.calls ((rd_T35 l0 x10_1).f0) true _ A8.out).mono ?_); rintro e w' ⟨rfl, ⟨nd, rfl⟩⟩; have p212 : 0 ≤ (x10_1 : Int) := of_decide_eq_true (by first | (with_reducible assumption) | assumption); have q212 : x10_1 < (l0.length : Int) := of_decide_eq_true (by first | (with_reducible assumption) | assumption); obtain ⟨ad212, e212, hx212_0, hx212_1, hx212_2, hx212_3⟩ := at_T35 HR0.out x10_1 p212 q212; obtain rfl : ad210 = ad212 := (by injection e212); replace p212 := eq_true p212; replace q212 := eq_true q212))
                go_meet
                case rel => exact ⟨_, ((((rd_T35 l0 x10_1).f2) == a1)), (by first | rfl | (simp; done) | (simp [*]; done)), H', ⟨by have := HK1.out; first | omega | exact Nat.le_refl _⟩, by repeat (first | exact Drawn0.refl _ | apply Drawn0.step)⟩
              · replace c9 := Bool.eq_false_iff.mpr c9
                subst c9
                have H1 : (mootlaw4_moved.j1 k1 l0 a1 x8_1 x9_1 x10_1 false) = some (r1, r2) := by rw [if_neg (show ¬ (false = true) by decide)] at H; exact H
                clear H
                have H := H1
                clear H1
                have H' := Aside0.mk H
                clear H
                have p210 : 0 ≤ (x10_1 : Int) := of_decide_eq_true (by first | (with_reducible assumption) | assumption)
                have q210 : x10_1 < (l0.length : Int) := of_decide_eq_true (by first | (with_reducible assumption) | assumption)
                obtain ⟨ad210, e210, hx210_0, hx210_1, hx210_2, hx210_3⟩ := at_T35 HR0.out x10_1 p210 q210
                cases e210
                replace p210 := eq_true p210
                replace q210 := eq_true q210
                go_wp2_with (first | (go_at_call 23; (with_reducible refine (mootlaw4_LedgerCloses_1.calls ((rd_T35 l0 x10_1).f0) false _ A8.out).mono ?_); rintro e w' ⟨rfl, ⟨nd, rfl⟩⟩))
                go_meet
                case rel => exact ⟨_, (false), (by first | rfl | (simp; done) | (simp [*]; done)), H', ⟨by have := HK1.out; first | omega | exact Nat.le_refl _⟩, by repeat (first | exact Drawn0.refl _ | apply Drawn0.step)⟩
            · rw [if_neg c7] at H
              exact absurd H (by simp)
          · rw [if_neg c6] at H
            exact absurd H (by simp)
        case rest =>
          clear HC5
          try clear c2
          try clear p2
          try clear q2
          try clear hx2
          try clear c4
          try clear c4b0
          try clear c6
          try clear c6b0
          try clear p6
          try clear c7
          try clear c7b0
          try clear c9
          try clear hx210_0
          try clear hx210_1
          try clear hx210_2
          try clear hx210_3
          try clear hx212_0
          try clear hx212_1
          try clear hx212_2
          try clear hx212_3
          try clear p2
          try clear p210
          try clear p212
          try clear q210
          try clear q212
          obtain ⟨kq, x33_4, rfl, HA, HJ4, ⟨mc4, rfl⟩⟩ := hcut
          cases kq with
          | zero => exact absurd HA.out (by simp [mootlaw4_moved.j1])
          | succ kj4 =>
            have H := HA.out
            clear HA
            simp only [mootlaw4_moved.j1] at H
            by_cases c10 : x33_4 = true
            · subst c10
              have H1 : (if 0 ≤ x10_1 then (if x10_1 < (l0.length : Int) then ((mootlaw4_LedgerCloses_1.f ((rd_T35 l0 x10_1).f0)).bind fun t215 => (if t215 = true then (if ((rd_T35 l0 x10_1).f1) = a1 then (mootlaw4_moved.l0 kj4 l0 a1 (wrap64 (x8_1 + ((rd_T35 l0 x10_1).f3))) (wrap64 (x9_1 + ((rd_T35 l0 x10_1).f3))) (wrap64 (x10_1 - 1))) else (mootlaw4_moved.l0 kj4 l0 a1 (wrap64 (x8_1 + ((rd_T35 l0 x10_1).f3))) x9_1 (wrap64 (x10_1 - 1)))) else (mootlaw4_moved.l0 kj4 l0 a1 (wrap64 (x8_1 + ((rd_T35 l0 x10_1).f3))) x9_1 (wrap64 (x10_1 - 1))))) else (none)) else (none)) = some (r1, r2) := by rw [if_pos rfl] at H; exact H
              clear H
              have H := H1
              clear H1
              by_cases c11 : 0 ≤ x10_1
              · rw [if_pos c11] at H
                have c11b0 : decide (0 ≤ x10_1) = true := decide_eq_true c11
                clear c11
                by_cases c12 : x10_1 < (l0.length : Int)
                · rw [if_pos c12] at H
                  have c12b0 : decide (x10_1 < (l0.length : Int)) = true := decide_eq_true c12
                  clear c12
                  replace H := Option.bind_eq_some_iff.mp H
                  obtain ⟨t215, A130, H⟩ := H
                  replace H : (if t215 = true then (if ((rd_T35 l0 x10_1).f1) = a1 then (mootlaw4_moved.l0 kj4 l0 a1 (wrap64 (x8_1 + ((rd_T35 l0 x10_1).f3))) (wrap64 (x9_1 + ((rd_T35 l0 x10_1).f3))) (wrap64 (x10_1 - 1))) else (mootlaw4_moved.l0 kj4 l0 a1 (wrap64 (x8_1 + ((rd_T35 l0 x10_1).f3))) x9_1 (wrap64 (x10_1 - 1)))) else (mootlaw4_moved.l0 kj4 l0 a1 (wrap64 (x8_1 + ((rd_T35 l0 x10_1).f3))) x9_1 (wrap64 (x10_1 - 1)))) = some (r1, r2) := H
                  have A13 := Aside0.mk A130
                  clear A130
                  by_cases c14 : t215 = true
                  · subst c14
                    have H1 : (if ((rd_T35 l0 x10_1).f1) = a1 then (mootlaw4_moved.l0 kj4 l0 a1 (wrap64 (x8_1 + ((rd_T35 l0 x10_1).f3))) (wrap64 (x9_1 + ((rd_T35 l0 x10_1).f3))) (wrap64 (x10_1 - 1))) else (mootlaw4_moved.l0 kj4 l0 a1 (wrap64 (x8_1 + ((rd_T35 l0 x10_1).f3))) x9_1 (wrap64 (x10_1 - 1)))) = some (r1, r2) := by rw [if_pos rfl] at H; exact H
                    clear H
                    have H := H1
                    clear H1
                    by_cases c15 : ((rd_T35 l0 x10_1).f1) = a1
                    · rw [if_pos c15] at H
                      have c15b0 : (((rd_T35 l0 x10_1).f1) == a1) = true := beq_iff_eq.mpr c15
                      have c15b1 : (((rd_T35 l0 x10_1).f1) != a1) = false := bne_eq_false_iff_eq.mpr c15
                      clear c15
                      have H' := Aside0.mk H
                      clear H
                      have p213 : 0 ≤ (x10_1 : Int) := of_decide_eq_true (by first | (with_reducible assumption) | assumption)
                      have q213 : x10_1 < (l0.length : Int) := of_decide_eq_true (by first | (with_reducible assumption) | assumption)
                      obtain ⟨ad213, e213, hx213_0, hx213_1, hx213_2, hx213_3⟩ := at_T35 HR0.out x10_1 p213 q213
                      cases e213
                      replace p213 := eq_true p213
                      replace q213 := eq_true q213
                      have p214 : 0 ≤ (x10_1 : Int) := of_decide_eq_true (by first | (with_reducible assumption) | assumption)
                      have q214 : x10_1 < (l0.length : Int) := of_decide_eq_true (by first | (with_reducible assumption) | assumption)
                      obtain ⟨ad214, e214, hx214_0, hx214_1, hx214_2, hx214_3⟩ := at_T35 HR0.out x10_1 p214 q214
                      obtain rfl : ad213 = ad214 := (by injection e214)
                      replace p214 := eq_true p214
                      replace q214 := eq_true q214
                      go_wp2_with (first | (go_at_call 23; (with_reducible refine (mootlaw4_LedgerCloses_1.calls ((rd_T35 l0 x10_1).f0) true _ A13.out).mono ?_); rintro e w' ⟨rfl, ⟨nd, rfl⟩⟩; have p216 : 0 ≤ (x10_1 : Int) := of_decide_eq_true (by first | (with_reducible assumption) | assumption); have q216 : x10_1 < (l0.length : Int) := of_decide_eq_true (by first | (with_reducible assumption) | assumption); obtain ⟨ad216, e216, hx216_0, hx216_1, hx216_2, hx216_3⟩ := at_T35 HR0.out x10_1 p216 q216; obtain rfl : ad213 = ad216 := (by injection e216); replace p216 := eq_true p216; replace q216 := eq_true q216; have p217 : 0 ≤ (x10_1 : Int) := of_decide_eq_true (by first | (with_reducible assumption) | assumption); have q217 : x10_1 < (l0.length : Int) := of_decide_eq_true (by first | (with_reducible assumption) | assumption); obtain ⟨ad217, e217, hx217_0, hx217_1, hx217_2, hx217_3⟩ := at_T35 HR0.out x10_1 p217 q217; obtain rfl : ad213 = ad217 := (by injection e217); replace p217 := eq_true p217; replace q217 := eq_true q217))
                      go_roundg kj4
                      case measure => have := HK1.out; have := HJ4.out; omega
                      case rel => exact ⟨(wrap64 (x8_1 + ((rd_T35 l0 x10_1).f3))), (wrap64 (x9_1 + ((rd_T35 l0 x10_1).f3))), (wrap64 (x10_1 - 1)), (by first | rfl | (simp; done) | (simp [*]; done)), (by first | rfl | (simp; done) | (simp [*]; done)), (by first | rfl | (simp; done) | (simp [*]; done)), H', ⟨by have := HK1.out; have := HJ4.out; omega⟩, by repeat (first | exact Drawn0.refl _ | apply Drawn0.step)⟩
                    · rw [if_neg c15] at H
                      have c15b0 : (((rd_T35 l0 x10_1).f1) == a1) = false := beq_eq_false_iff_ne.mpr c15
                      have c15b1 : (((rd_T35 l0 x10_1).f1) != a1) = true := bne_iff_ne.mpr c15
                      have H' := Aside0.mk H
                      clear H
                      have p213 : 0 ≤ (x10_1 : Int) := of_decide_eq_true (by first | (with_reducible assumption) | assumption)
                      have q213 : x10_1 < (l0.length : Int) := of_decide_eq_true (by first | (with_reducible assumption) | assumption)
                      obtain ⟨ad213, e213, hx213_0, hx213_1, hx213_2, hx213_3⟩ := at_T35 HR0.out x10_1 p213 q213
                      cases e213
                      replace p213 := eq_true p213
                      replace q213 := eq_true q213
                      have p214 : 0 ≤ (x10_1 : Int) := of_decide_eq_true (by first | (with_reducible assumption) | assumption)
                      have q214 : x10_1 < (l0.length : Int) := of_decide_eq_true (by first | (with_reducible assumption) | assumption)
                      obtain ⟨ad214, e214, hx214_0, hx214_1, hx214_2, hx214_3⟩ := at_T35 HR0.out x10_1 p214 q214
                      obtain rfl : ad213 = ad214 := (by injection e214)
                      replace p214 := eq_true p214
                      replace q214 := eq_true q214
                      go_wp2_with (first | (go_at_call 23; (with_reducible refine (mootlaw4_LedgerCloses_1.calls ((rd_T35 l0 x10_1).f0) true _ A13.out).mono ?_); rintro e w' ⟨rfl, ⟨nd, rfl⟩⟩; have p216 : 0 ≤ (x10_1 : Int) := of_decide_eq_true (by first | (with_reducible assumption) | assumption); have q216 : x10_1 < (l0.length : Int) := of_decide_eq_true (by first | (with_reducible assumption) | assumption); obtain ⟨ad216, e216, hx216_0, hx216_1, hx216_2, hx216_3⟩ := at_T35 HR0.out x10_1 p216 q216; obtain rfl : ad213 = ad216 := (by injection e216); replace p216 := eq_true p216; replace q216 := eq_true q216))
                      go_roundg kj4
                      case measure => have := HK1.out; have := HJ4.out; omega
                      case rel => exact ⟨(wrap64 (x8_1 + ((rd_T35 l0 x10_1).f3))), (x9_1), (wrap64 (x10_1 - 1)), (by first | rfl | (simp; done) | (simp [*]; done)), (by first | rfl | (simp; done) | (simp [*]; done)), (by first | rfl | (simp; done) | (simp [*]; done)), H', ⟨by have := HK1.out; have := HJ4.out; omega⟩, by repeat (first | exact Drawn0.refl _ | apply Drawn0.step)⟩
                  · replace c14 := Bool.eq_false_iff.mpr c14
                    subst c14
                    have H1 : (mootlaw4_moved.l0 kj4 l0 a1 (wrap64 (x8_1 + ((rd_T35 l0 x10_1).f3))) x9_1 (wrap64 (x10_1 - 1))) = some (r1, r2) := by rw [if_neg (show ¬ (false = true) by decide)] at H; exact H
                    clear H
                    have H := H1
                    clear H1
                    have H' := Aside0.mk H
                    clear H
                    have p213 : 0 ≤ (x10_1 : Int) := of_decide_eq_true (by first | (with_reducible assumption) | assumption)
                    have q213 : x10_1 < (l0.length : Int) := of_decide_eq_true (by first | (with_reducible assumption) | assumption)
                    obtain ⟨ad213, e213, hx213_0, hx213_1, hx213_2, hx213_3⟩ := at_T35 HR0.out x10_1 p213 q213
                    cases e213
                    replace p213 := eq_true p213
                    replace q213 := eq_true q213
                    have p214 : 0 ≤ (x10_1 : Int) := of_decide_eq_true (by first | (with_reducible assumption) | assumption)
                    have q214 : x10_1 < (l0.length : Int) := of_decide_eq_true (by first | (with_reducible assumption) | assumption)
                    obtain ⟨ad214, e214, hx214_0, hx214_1, hx214_2, hx214_3⟩ := at_T35 HR0.out x10_1 p214 q214
                    obtain rfl : ad213 = ad214 := (by injection e214)
                    replace p214 := eq_true p214
                    replace q214 := eq_true q214
                    go_wp2_with (first | (go_at_call 23; (with_reducible refine (mootlaw4_LedgerCloses_1.calls ((rd_T35 l0 x10_1).f0) false _ A13.out).mono ?_); rintro e w' ⟨rfl, ⟨nd, rfl⟩⟩))
                    go_roundg kj4
                    case measure => have := HK1.out; have := HJ4.out; omega
                    case rel => exact ⟨(wrap64 (x8_1 + ((rd_T35 l0 x10_1).f3))), (x9_1), (wrap64 (x10_1 - 1)), (by first | rfl | (simp; done) | (simp [*]; done)), (by first | rfl | (simp; done) | (simp [*]; done)), (by first | rfl | (simp; done) | (simp [*]; done)), H', ⟨by have := HK1.out; have := HJ4.out; omega⟩, by repeat (first | exact Drawn0.refl _ | apply Drawn0.step)⟩
                · rw [if_neg c12] at H
                  exact absurd H (by simp)
              · rw [if_neg c11] at H
                exact absurd H (by simp)
            · replace c10 := Bool.eq_false_iff.mpr c10
              subst c10
              have H1 : (if 0 ≤ x10_1 then (if x10_1 < (l0.length : Int) then ((mootlaw4_LedgerCloses_1.f ((rd_T35 l0 x10_1).f0)).bind fun t219 => (if t219 = true then (if ((rd_T35 l0 x10_1).f1) = a1 then (mootlaw4_moved.l0 kj4 l0 a1 x8_1 (wrap64 (x9_1 + ((rd_T35 l0 x10_1).f3))) (wrap64 (x10_1 - 1))) else (mootlaw4_moved.l0 kj4 l0 a1 x8_1 x9_1 (wrap64 (x10_1 - 1)))) else (mootlaw4_moved.l0 kj4 l0 a1 x8_1 x9_1 (wrap64 (x10_1 - 1))))) else (none)) else (none)) = some (r1, r2) := by rw [if_neg (show ¬ (false = true) by decide)] at H; exact H
              clear H
              have H := H1
              clear H1
              by_cases c16 : 0 ≤ x10_1
              · rw [if_pos c16] at H
                have c16b0 : decide (0 ≤ x10_1) = true := decide_eq_true c16
                clear c16
                by_cases c17 : x10_1 < (l0.length : Int)
                · rw [if_pos c17] at H
                  have c17b0 : decide (x10_1 < (l0.length : Int)) = true := decide_eq_true c17
                  clear c17
                  replace H := Option.bind_eq_some_iff.mp H
                  obtain ⟨t219, A180, H⟩ := H
                  replace H : (if t219 = true then (if ((rd_T35 l0 x10_1).f1) = a1 then (mootlaw4_moved.l0 kj4 l0 a1 x8_1 (wrap64 (x9_1 + ((rd_T35 l0 x10_1).f3))) (wrap64 (x10_1 - 1))) else (mootlaw4_moved.l0 kj4 l0 a1 x8_1 x9_1 (wrap64 (x10_1 - 1)))) else (mootlaw4_moved.l0 kj4 l0 a1 x8_1 x9_1 (wrap64 (x10_1 - 1)))) = some (r1, r2) := H
                  have A18 := Aside0.mk A180
                  clear A180
                  by_cases c19 : t219 = true
                  · subst c19
                    have H1 : (if ((rd_T35 l0 x10_1).f1) = a1 then (mootlaw4_moved.l0 kj4 l0 a1 x8_1 (wrap64 (x9_1 + ((rd_T35 l0 x10_1).f3))) (wrap64 (x10_1 - 1))) else (mootlaw4_moved.l0 kj4 l0 a1 x8_1 x9_1 (wrap64 (x10_1 - 1)))) = some (r1, r2) := by rw [if_pos rfl] at H; exact H
                    clear H
                    have H := H1
                    clear H1
                    by_cases c20 : ((rd_T35 l0 x10_1).f1) = a1
                    · rw [if_pos c20] at H
                      have c20b0 : (((rd_T35 l0 x10_1).f1) == a1) = true := beq_iff_eq.mpr c20
                      have c20b1 : (((rd_T35 l0 x10_1).f1) != a1) = false := bne_eq_false_iff_eq.mpr c20
                      clear c20
                      have H' := Aside0.mk H
                      clear H
                      have p218 : 0 ≤ (x10_1 : Int) := of_decide_eq_true (by first | (with_reducible assumption) | assumption)
                      have q218 : x10_1 < (l0.length : Int) := of_decide_eq_true (by first | (with_reducible assumption) | assumption)
                      obtain ⟨ad218, e218, hx218_0, hx218_1, hx218_2, hx218_3⟩ := at_T35 HR0.out x10_1 p218 q218
                      cases e218
                      replace p218 := eq_true p218
                      replace q218 := eq_true q218
                      go_wp2_with (first | (go_at_call 23; (with_reducible refine (mootlaw4_LedgerCloses_1.calls ((rd_T35 l0 x10_1).f0) true _ A18.out).mono ?_); rintro e w' ⟨rfl, ⟨nd, rfl⟩⟩; have p220 : 0 ≤ (x10_1 : Int) := of_decide_eq_true (by first | (with_reducible assumption) | assumption); have q220 : x10_1 < (l0.length : Int) := of_decide_eq_true (by first | (with_reducible assumption) | assumption); obtain ⟨ad220, e220, hx220_0, hx220_1, hx220_2, hx220_3⟩ := at_T35 HR0.out x10_1 p220 q220; obtain rfl : ad218 = ad220 := (by injection e220); replace p220 := eq_true p220; replace q220 := eq_true q220; have p221 : 0 ≤ (x10_1 : Int) := of_decide_eq_true (by first | (with_reducible assumption) | assumption); have q221 : x10_1 < (l0.length : Int) := of_decide_eq_true (by first | (with_reducible assumption) | assumption); obtain ⟨ad221, e221, hx221_0, hx221_1, hx221_2, hx221_3⟩ := at_T35 HR0.out x10_1 p221 q221; obtain rfl : ad218 = ad221 := (by injection e221); replace p221 := eq_true p221; replace q221 := eq_true q221))
                      go_roundg kj4
                      case measure => have := HK1.out; have := HJ4.out; omega
                      case rel => exact ⟨(x8_1), (wrap64 (x9_1 + ((rd_T35 l0 x10_1).f3))), (wrap64 (x10_1 - 1)), (by first | rfl | (simp; done) | (simp [*]; done)), (by first | rfl | (simp; done) | (simp [*]; done)), (by first | rfl | (simp; done) | (simp [*]; done)), H', ⟨by have := HK1.out; have := HJ4.out; omega⟩, by repeat (first | exact Drawn0.refl _ | apply Drawn0.step)⟩
                    · rw [if_neg c20] at H
                      have c20b0 : (((rd_T35 l0 x10_1).f1) == a1) = false := beq_eq_false_iff_ne.mpr c20
                      have c20b1 : (((rd_T35 l0 x10_1).f1) != a1) = true := bne_iff_ne.mpr c20
                      have H' := Aside0.mk H
                      clear H
                      have p218 : 0 ≤ (x10_1 : Int) := of_decide_eq_true (by first | (with_reducible assumption) | assumption)
                      have q218 : x10_1 < (l0.length : Int) := of_decide_eq_true (by first | (with_reducible assumption) | assumption)
                      obtain ⟨ad218, e218, hx218_0, hx218_1, hx218_2, hx218_3⟩ := at_T35 HR0.out x10_1 p218 q218
                      cases e218
                      replace p218 := eq_true p218
                      replace q218 := eq_true q218
                      go_wp2_with (first | (go_at_call 23; (with_reducible refine (mootlaw4_LedgerCloses_1.calls ((rd_T35 l0 x10_1).f0) true _ A18.out).mono ?_); rintro e w' ⟨rfl, ⟨nd, rfl⟩⟩; have p220 : 0 ≤ (x10_1 : Int) := of_decide_eq_true (by first | (with_reducible assumption) | assumption); have q220 : x10_1 < (l0.length : Int) := of_decide_eq_true (by first | (with_reducible assumption) | assumption); obtain ⟨ad220, e220, hx220_0, hx220_1, hx220_2, hx220_3⟩ := at_T35 HR0.out x10_1 p220 q220; obtain rfl : ad218 = ad220 := (by injection e220); replace p220 := eq_true p220; replace q220 := eq_true q220))
                      go_roundg kj4
                      case measure => have := HK1.out; have := HJ4.out; omega
                      case rel => exact ⟨(x8_1), (x9_1), (wrap64 (x10_1 - 1)), (by first | rfl | (simp; done) | (simp [*]; done)), (by first | rfl | (simp; done) | (simp [*]; done)), (by first | rfl | (simp; done) | (simp [*]; done)), H', ⟨by have := HK1.out; have := HJ4.out; omega⟩, by repeat (first | exact Drawn0.refl _ | apply Drawn0.step)⟩
                  · replace c19 := Bool.eq_false_iff.mpr c19
                    subst c19
                    have H1 : (mootlaw4_moved.l0 kj4 l0 a1 x8_1 x9_1 (wrap64 (x10_1 - 1))) = some (r1, r2) := by rw [if_neg (show ¬ (false = true) by decide)] at H; exact H
                    clear H
                    have H := H1
                    clear H1
                    have H' := Aside0.mk H
                    clear H
                    have p218 : 0 ≤ (x10_1 : Int) := of_decide_eq_true (by first | (with_reducible assumption) | assumption)
                    have q218 : x10_1 < (l0.length : Int) := of_decide_eq_true (by first | (with_reducible assumption) | assumption)
                    obtain ⟨ad218, e218, hx218_0, hx218_1, hx218_2, hx218_3⟩ := at_T35 HR0.out x10_1 p218 q218
                    cases e218
                    replace p218 := eq_true p218
                    replace q218 := eq_true q218
                    go_wp2_with (first | (go_at_call 23; (with_reducible refine (mootlaw4_LedgerCloses_1.calls ((rd_T35 l0 x10_1).f0) false _ A18.out).mono ?_); rintro e w' ⟨rfl, ⟨nd, rfl⟩⟩))
                    go_roundg kj4
                    case measure => have := HK1.out; have := HJ4.out; omega
                    case rel => exact ⟨(x8_1), (x9_1), (wrap64 (x10_1 - 1)), (by first | rfl | (simp; done) | (simp [*]; done)), (by first | rfl | (simp; done) | (simp [*]; done)), (by first | rfl | (simp; done) | (simp [*]; done)), H', ⟨by have := HK1.out; have := HJ4.out; omega⟩, by repeat (first | exact Drawn0.refl _ | apply Drawn0.step)⟩
                · rw [if_neg c17] at H
                  exact absurd H (by simp)
              · rw [if_neg c16] at H
                exact absurd H (by simp)
      · rw [if_neg c4] at H
        have c4b0 : decide (0 ≤ x10_1) = false := decide_eq_false c4
        clear c4
        simp only [Option.some.injEq, Prod.mk.injEq] at H
        obtain ⟨rfl, rfl⟩ := H
        go_wp2
        go_ret2
        exact ⟨by first | rfl | (simp; done) | (simp [*]; done), by repeat (first | exact Drawn0.refl _ | apply Drawn0.step)⟩

end Go.Proofs.Ytenhnlclnjnboaa.PAll
