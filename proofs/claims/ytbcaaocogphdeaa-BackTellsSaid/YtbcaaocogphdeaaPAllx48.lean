-- Printed by this session's wip/myprint.py.
import Derived.Test.YtbcaaocogphdeaaPAllx0
import Derived.Test.YtbcaaocogphdeaaPAllx3
import Derived.Test.YtbcaaocogphdeaaPAllx4
import Derived.Test.YtbcaaocogphdeaaPAllx28
import Derived.Test.YtbcaaocogphdeaaPAllx36
import Derived.Test.YtbcaaocogphdeaaPAllx38
import Derived.Test.YtbcaaocogphdeaaPAllx43
import Derived.Test.YtbcaaocogphdeaaPAllx47
namespace Go.Proofs.Ytbcaaocogphdeaa.PAll
open Go.RowKit Go.Proofs.YtbcaaocogphdeaaW.PrintWords Go.Proofs.YtbcaaocogphdeaaW.PrintLast Go.Proofs.YtbcaaocogphdeaaW.PrintMore
attribute [local go_sem] max2_int min2_int max_two min_two max_three min_three max_four min_four   -- for this text's walks alone
set_option linter.unusedVariables false
set_option linter.unusedSimpArgs false

/-! ### mootlaw4_BackTells: function 6 -/
theorem mootlaw4_BackTells.fa_ {a : Addr} {g n : Nat} (h : a.block ≠ g) : (a.add n).block ≠ g := by rw [add_block]; exact h
mutual
def mootlaw4_BackTells.j0 : Nat → List (S32) → List (S32) → Int → Int → Int → Bool → Option (Bool)
 | 0, _, _, _, _, _, _ => none
 | k + 1, x0, x1, x2, x3, x9, x39 => if x39 = true then (some false) else (if x9 = 0 then ((mootlaw4_paysFault.f k x1).bind fun t310 => (mootlaw4_BackTells.j1 k x0 x1 x2 x3 t310)) else (mootlaw4_BackTells.j1 k x0 x1 x2 x3 x9))
def mootlaw4_BackTells.j1 : Nat → List (S32) → List (S32) → Int → Int → Int → Option (Bool)
 | 0, _, _, _, _, _ => none
 | k + 1, x0, x1, x2, x3, x9 => if x9 = 0 then (if x2 < 0 then (mootlaw4_BackTells.j2 k x0 x1 x2 x3 x9 true) else (mootlaw4_BackTells.j2 k x0 x1 x2 x3 x9 (decide (x2 > 1048575)))) else (mootlaw4_BackTells.j2 k x0 x1 x2 x3 x9 false)
def mootlaw4_BackTells.j2 : Nat → List (S32) → List (S32) → Int → Int → Int → Bool → Option (Bool)
 | 0, _, _, _, _, _, _ => none
 | k + 1, x0, x1, x2, x3, x9, x53 => if x53 = true then (mootlaw4_BackTells.j3 k x0 x1 x2 x3 1) else (mootlaw4_BackTells.j3 k x0 x1 x2 x3 x9)
def mootlaw4_BackTells.j3 : Nat → List (S32) → List (S32) → Int → Int → Int → Option (Bool)
 | 0, _, _, _, _, _ => none
 | k + 1, x0, x1, x2, x3, x9 => (back_Correct.f x0 x1 x2).bind fun bt311 => (if x9 = 0 then (if bt311.2 = 0 then (mootlaw4_BackTells.l0 k x0 x1 x2 x3 bt311.1 0 0 bt311.1 (bt311.1.length : Int) 0) else (some false)) else (if bt311.2 = x9 then (some ((bt311.1.length : Int) == 0)) else (some false)))
def mootlaw4_BackTells.l0 : Nat → List (S32) → List (S32) → Int → Int → List (S32) → Int → Int → List (S32) → Int → Int → Option (Bool)
 | 0, _, _, _, _, _, _, _, _, _, _ => none
 | k + 1, x0, x1, x2, x3, x10, x12, x13, x73, x74, x75 => if x75 < x74 then (if 0 ≤ x75 then (if x75 < (x73.length : Int) then (if ((rd_T32 x73 x75).f2) = 0 then (mootlaw4_BackTells.j5 k x0 x1 x2 x3 x10 x12 x13 x73 x74 x75 true ((rd_T32 x73 x75).f0) ((rd_T32 x73 x75).f1) ((rd_T32 x73 x75).f2) ((rd_T32 x73 x75).f3)) else (if ((rd_T32 x73 x75).f3) = x2 then (if x75 > 0 then (if 0 ≤ (wrap64 (x75 - 1)) then (if (wrap64 (x75 - 1)) < (x10.length : Int) then (if ((rd_T32 x10 (wrap64 (x75 - 1))).f0) > ((rd_T32 x73 x75).f0) then (mootlaw4_BackTells.j5 k x0 x1 x2 x3 x10 x12 x13 x73 x74 x75 true ((rd_T32 x73 x75).f0) ((rd_T32 x73 x75).f1) ((rd_T32 x73 x75).f2) ((rd_T32 x73 x75).f3)) else (if ((rd_T32 x10 (wrap64 (x75 - 1))).f0) = ((rd_T32 x73 x75).f0) then (mootlaw4_BackTells.j5 k x0 x1 x2 x3 x10 x12 x13 x73 x74 x75 (decide (((rd_T32 x10 (wrap64 (x75 - 1))).f1) ≥ ((rd_T32 x73 x75).f1))) ((rd_T32 x73 x75).f0) ((rd_T32 x73 x75).f1) ((rd_T32 x73 x75).f2) ((rd_T32 x73 x75).f3)) else (mootlaw4_BackTells.j5 k x0 x1 x2 x3 x10 x12 x13 x73 x74 x75 false ((rd_T32 x73 x75).f0) ((rd_T32 x73 x75).f1) ((rd_T32 x73 x75).f2) ((rd_T32 x73 x75).f3)))) else (none)) else (none)) else (mootlaw4_BackTells.j5 k x0 x1 x2 x3 x10 x12 x13 x73 x74 x75 false ((rd_T32 x73 x75).f0) ((rd_T32 x73 x75).f1) ((rd_T32 x73 x75).f2) ((rd_T32 x73 x75).f3))) else (mootlaw4_BackTells.j5 k x0 x1 x2 x3 x10 x12 x13 x73 x74 x75 true ((rd_T32 x73 x75).f0) ((rd_T32 x73 x75).f1) ((rd_T32 x73 x75).f2) ((rd_T32 x73 x75).f3)))) else (none)) else (none)) else ((api_Pay_17.cat3.f x0 x1 x10).bind fun t320 => (mootlaw4_BackTells.l1 k x0 x1 x3 x10 x12 x13 t320 (t320.length : Int) 0))
def mootlaw4_BackTells.j5 : Nat → List (S32) → List (S32) → Int → Int → List (S32) → Int → Int → List (S32) → Int → Int → Bool → Int → Int → Int → Int → Option (Bool)
 | 0, _, _, _, _, _, _, _, _, _, _, _, _, _, _, _ => none
 | k + 1, x0, x1, x2, x3, x10, x12, x13, x73, x74, x75, x125, x317000, x317001, x317002, x317003 => if x125 = true then (some false) else (if x317000 = x3 then (mootlaw4_BackTells.j6 k x0 x1 x2 x3 x10 x12 x13 x73 x74 x75 (decide (x317002 < 0)) x317000 x317001 x317002 x317003) else (mootlaw4_BackTells.j6 k x0 x1 x2 x3 x10 x12 x13 x73 x74 x75 false x317000 x317001 x317002 x317003))
def mootlaw4_BackTells.j6 : Nat → List (S32) → List (S32) → Int → Int → List (S32) → Int → Int → List (S32) → Int → Int → Bool → Int → Int → Int → Int → Option (Bool)
 | 0, _, _, _, _, _, _, _, _, _, _, _, _, _, _, _ => none
 | k + 1, x0, x1, x2, x3, x10, x12, x13, x73, x74, x75, x134, x317000, x317001, x317002, x317003 => if x134 = true then (if x317000 = x3 then (if x317002 > 0 then (mootlaw4_BackTells.l0 k x0 x1 x2 x3 x10 (wrap64 (x12 - x317002)) (wrap64 (x13 + x317002)) x73 x74 (wrap64 (x75 + 1))) else (mootlaw4_BackTells.l0 k x0 x1 x2 x3 x10 (wrap64 (x12 - x317002)) x13 x73 x74 (wrap64 (x75 + 1)))) else (mootlaw4_BackTells.l0 k x0 x1 x2 x3 x10 (wrap64 (x12 - x317002)) x13 x73 x74 (wrap64 (x75 + 1)))) else (if x317000 = x3 then (if x317002 > 0 then (mootlaw4_BackTells.l0 k x0 x1 x2 x3 x10 x12 (wrap64 (x13 + x317002)) x73 x74 (wrap64 (x75 + 1))) else (mootlaw4_BackTells.l0 k x0 x1 x2 x3 x10 x12 x13 x73 x74 (wrap64 (x75 + 1)))) else (mootlaw4_BackTells.l0 k x0 x1 x2 x3 x10 x12 x13 x73 x74 (wrap64 (x75 + 1))))
def mootlaw4_BackTells.l1 : Nat → List (S32) → List (S32) → Int → List (S32) → Int → Int → List (S32) → Int → Int → Option (Bool)
 | 0, _, _, _, _, _, _, _, _, _ => none
 | k + 1, x0, x1, x3, x10, x12, x13, x157, x158, x159 => if x159 < x158 then (if 0 ≤ x159 then (if x159 < (x157.length : Int) then ((api_Pay_17.cat2.f x0 x10).bind fun t327 => (mootlaw4_BackTells.l2 k x0 x1 x3 x10 x12 x13 0 x157 x158 x159 t327 (t327.length : Int) 0 ((rd_T32 x157 x159).f0) ((rd_T32 x157 x159).f1) ((rd_T32 x157 x159).f2) ((rd_T32 x157 x159).f3))) else (none)) else (none)) else ((back_Net.f k x10 x3).bind fun bt323 => (if bt323.1 = x12 then (some (bt323.2 == x13)) else (some false)))
def mootlaw4_BackTells.l2 : Nat → List (S32) → List (S32) → Int → List (S32) → Int → Int → Int → List (S32) → Int → Int → List (S32) → Int → Int → Int → Int → Int → Int → Option (Bool)
 | 0, _, _, _, _, _, _, _, _, _, _, _, _, _, _, _, _, _ => none
 | k + 1, x0, x1, x3, x10, x12, x13, x18, x157, x158, x159, x166, x167, x168, x327000, x327001, x327002, x327003 => if x168 < x167 then (if 0 ≤ x168 then (if x168 < (x166.length : Int) then (if ((rd_T32 x166 x168).f0) = x327000 then (if ((rd_T32 x166 x168).f1) = x327001 then (mootlaw4_BackTells.l2 k x0 x1 x3 x10 x12 x13 (wrap64 (x18 + ((rd_T32 x166 x168).f2))) x157 x158 x159 x166 x167 (wrap64 (x168 + 1)) x327000 x327001 x327002 x327003) else (mootlaw4_BackTells.l2 k x0 x1 x3 x10 x12 x13 x18 x157 x158 x159 x166 x167 (wrap64 (x168 + 1)) x327000 x327001 x327002 x327003)) else (mootlaw4_BackTells.l2 k x0 x1 x3 x10 x12 x13 x18 x157 x158 x159 x166 x167 (wrap64 (x168 + 1)) x327000 x327001 x327002 x327003)) else (none)) else (none)) else (mootlaw4_BackTells.l3 k x0 x1 x3 x10 x12 x13 x18 x157 x158 x159 x1 (x1.length : Int) 0 x327000 x327001 x327002 x327003)
def mootlaw4_BackTells.l3 : Nat → List (S32) → List (S32) → Int → List (S32) → Int → Int → Int → List (S32) → Int → Int → List (S32) → Int → Int → Int → Int → Int → Int → Option (Bool)
 | 0, _, _, _, _, _, _, _, _, _, _, _, _, _, _, _, _, _ => none
 | k + 1, x0, x1, x3, x10, x12, x13, x18, x157, x158, x159, x189, x190, x191, x327000, x327001, x327002, x327003 => if x191 < x190 then (if 0 ≤ x191 then (if x191 < (x189.length : Int) then (if ((rd_T32 x189 x191).f0) = x327000 then (if ((rd_T32 x189 x191).f1) = x327001 then (mootlaw4_BackTells.l3 k x0 x1 x3 x10 x12 x13 (wrap64 (x18 - ((rd_T32 x189 x191).f2))) x157 x158 x159 x189 x190 (wrap64 (x191 + 1)) x327000 x327001 x327002 x327003) else (mootlaw4_BackTells.l3 k x0 x1 x3 x10 x12 x13 x18 x157 x158 x159 x189 x190 (wrap64 (x191 + 1)) x327000 x327001 x327002 x327003)) else (mootlaw4_BackTells.l3 k x0 x1 x3 x10 x12 x13 x18 x157 x158 x159 x189 x190 (wrap64 (x191 + 1)) x327000 x327001 x327002 x327003)) else (none)) else (none)) else (if x18 = 0 then (mootlaw4_BackTells.l1 k x0 x1 x3 x10 x12 x13 x157 x158 (wrap64 (x159 + 1))) else (some false))
end
def mootlaw4_BackTells.f (k : Nat) (l0 : List (S32)) (l1 : List (S32)) (a2 : Int) (a3 : Int) : Option (Bool) := (mootlaw4_corrects.f k).bind fun t305 => (if t305 = true then ((mootlaw4_paysFault.f k l0).bind fun t306 => ((back_Check.f k l0).bind fun t307 => (if t307 = t306 then ((back_Check.f k l1).bind fun t308 => ((mootlaw4_paysFault.f k l1).bind fun t309 => (mootlaw4_BackTells.j0 k l0 l1 a2 a3 t306 (t308 != t309)))) else (mootlaw4_BackTells.j0 k l0 l1 a2 a3 t306 true)))) else (some false))
theorem mootlaw4_BackTells.mono_l : ∀ k, (∀ y0 y1 y2 y3 y4 y5, LeO (mootlaw4_BackTells.j0 k y0 y1 y2 y3 y4 y5) (mootlaw4_BackTells.j0 (k + 1) y0 y1 y2 y3 y4 y5)) ∧ (∀ y0 y1 y2 y3 y4, LeO (mootlaw4_BackTells.j1 k y0 y1 y2 y3 y4) (mootlaw4_BackTells.j1 (k + 1) y0 y1 y2 y3 y4)) ∧ (∀ y0 y1 y2 y3 y4 y5, LeO (mootlaw4_BackTells.j2 k y0 y1 y2 y3 y4 y5) (mootlaw4_BackTells.j2 (k + 1) y0 y1 y2 y3 y4 y5)) ∧ (∀ y0 y1 y2 y3 y4, LeO (mootlaw4_BackTells.j3 k y0 y1 y2 y3 y4) (mootlaw4_BackTells.j3 (k + 1) y0 y1 y2 y3 y4)) ∧ (∀ y0 y1 y2 y3 y4 y5 y6 y7 y8 y9, LeO (mootlaw4_BackTells.l0 k y0 y1 y2 y3 y4 y5 y6 y7 y8 y9) (mootlaw4_BackTells.l0 (k + 1) y0 y1 y2 y3 y4 y5 y6 y7 y8 y9)) ∧ (∀ y0 y1 y2 y3 y4 y5 y6 y7 y8 y9 y10 y11 y12 y13 y14, LeO (mootlaw4_BackTells.j5 k y0 y1 y2 y3 y4 y5 y6 y7 y8 y9 y10 y11 y12 y13 y14) (mootlaw4_BackTells.j5 (k + 1) y0 y1 y2 y3 y4 y5 y6 y7 y8 y9 y10 y11 y12 y13 y14)) ∧ (∀ y0 y1 y2 y3 y4 y5 y6 y7 y8 y9 y10 y11 y12 y13 y14, LeO (mootlaw4_BackTells.j6 k y0 y1 y2 y3 y4 y5 y6 y7 y8 y9 y10 y11 y12 y13 y14) (mootlaw4_BackTells.j6 (k + 1) y0 y1 y2 y3 y4 y5 y6 y7 y8 y9 y10 y11 y12 y13 y14)) ∧ (∀ y0 y1 y2 y3 y4 y5 y6 y7 y8, LeO (mootlaw4_BackTells.l1 k y0 y1 y2 y3 y4 y5 y6 y7 y8) (mootlaw4_BackTells.l1 (k + 1) y0 y1 y2 y3 y4 y5 y6 y7 y8)) ∧ (∀ y0 y1 y2 y3 y4 y5 y6 y7 y8 y9 y10 y11 y12 y13 y14 y15 y16, LeO (mootlaw4_BackTells.l2 k y0 y1 y2 y3 y4 y5 y6 y7 y8 y9 y10 y11 y12 y13 y14 y15 y16) (mootlaw4_BackTells.l2 (k + 1) y0 y1 y2 y3 y4 y5 y6 y7 y8 y9 y10 y11 y12 y13 y14 y15 y16)) ∧ (∀ y0 y1 y2 y3 y4 y5 y6 y7 y8 y9 y10 y11 y12 y13 y14 y15 y16, LeO (mootlaw4_BackTells.l3 k y0 y1 y2 y3 y4 y5 y6 y7 y8 y9 y10 y11 y12 y13 y14 y15 y16) (mootlaw4_BackTells.l3 (k + 1) y0 y1 y2 y3 y4 y5 y6 y7 y8 y9 y10 y11 y12 y13 y14 y15 y16))
 | 0 => ⟨fun _ _ _ _ _ _ r h => by simp [mootlaw4_BackTells.j0] at h, fun _ _ _ _ _ r h => by simp [mootlaw4_BackTells.j1] at h, fun _ _ _ _ _ _ r h => by simp [mootlaw4_BackTells.j2] at h, fun _ _ _ _ _ r h => by simp [mootlaw4_BackTells.j3] at h, fun _ _ _ _ _ _ _ _ _ _ r h => by simp [mootlaw4_BackTells.l0] at h, fun _ _ _ _ _ _ _ _ _ _ _ _ _ _ _ r h => by simp [mootlaw4_BackTells.j5] at h, fun _ _ _ _ _ _ _ _ _ _ _ _ _ _ _ r h => by simp [mootlaw4_BackTells.j6] at h, fun _ _ _ _ _ _ _ _ _ r h => by simp [mootlaw4_BackTells.l1] at h, fun _ _ _ _ _ _ _ _ _ _ _ _ _ _ _ _ _ r h => by simp [mootlaw4_BackTells.l2] at h, fun _ _ _ _ _ _ _ _ _ _ _ _ _ _ _ _ _ r h => by simp [mootlaw4_BackTells.l3] at h⟩
 | k + 1 => by
  obtain ⟨ih0, ih1, ih2, ih3, ih4, ih5, ih6, ih7, ih8, ih9⟩ := mootlaw4_BackTells.mono_l k
  refine ⟨?_, ?_, ?_, ?_, ?_, ?_, ?_, ?_, ?_, ?_⟩
  ·
   intro y0 y1 y2 y3 y4 y5
   unfold mootlaw4_BackTells.j0
   repeat' first
   | (with_reducible exact ih0 _ _ _ _ _ _)
   | (with_reducible exact ih1 _ _ _ _ _)
   | (with_reducible exact ih2 _ _ _ _ _ _)
   | (with_reducible exact ih3 _ _ _ _ _)
   | (with_reducible exact ih4 _ _ _ _ _ _ _ _ _ _)
   | (with_reducible exact ih5 _ _ _ _ _ _ _ _ _ _ _ _ _ _ _)
   | (with_reducible exact ih6 _ _ _ _ _ _ _ _ _ _ _ _ _ _ _)
   | (with_reducible exact ih7 _ _ _ _ _ _ _ _ _)
   | (with_reducible exact ih8 _ _ _ _ _ _ _ _ _ _ _ _ _ _ _ _ _)
   | (with_reducible exact ih9 _ _ _ _ _ _ _ _ _ _ _ _ _ _ _ _ _)
   | (with_reducible exact back_Check.mono _ _)
   | (with_reducible exact back_Net.mono _ _ _)
   | (with_reducible exact mootlaw4_corrects.mono _)
   | (with_reducible exact mootlaw4_paysFault.mono _ _)
   | (with_reducible exact LeO.refl _)
   | (with_reducible exact LeO.none _)
   | (with_reducible refine LeO.ite ?_ ?_)
   | (with_reducible refine LeO.bind ?_ (fun _ => ?_))
   | exact ih0 _ _ _ _ _ _
   | exact ih1 _ _ _ _ _
   | exact ih2 _ _ _ _ _ _
   | exact ih3 _ _ _ _ _
   | exact ih4 _ _ _ _ _ _ _ _ _ _
   | exact ih5 _ _ _ _ _ _ _ _ _ _ _ _ _ _ _
   | exact ih6 _ _ _ _ _ _ _ _ _ _ _ _ _ _ _
   | exact ih7 _ _ _ _ _ _ _ _ _
   | exact ih8 _ _ _ _ _ _ _ _ _ _ _ _ _ _ _ _ _
   | exact ih9 _ _ _ _ _ _ _ _ _ _ _ _ _ _ _ _ _
   | exact back_Check.mono _ _
   | exact back_Net.mono _ _ _
   | exact mootlaw4_corrects.mono _
   | exact mootlaw4_paysFault.mono _ _
   | exact LeO.none _
   | refine LeO.ite ?_ ?_
   | refine LeO.bind ?_ (fun _ => ?_)
  ·
   intro y0 y1 y2 y3 y4
   unfold mootlaw4_BackTells.j1
   repeat' first
   | (with_reducible exact ih0 _ _ _ _ _ _)
   | (with_reducible exact ih1 _ _ _ _ _)
   | (with_reducible exact ih2 _ _ _ _ _ _)
   | (with_reducible exact ih3 _ _ _ _ _)
   | (with_reducible exact ih4 _ _ _ _ _ _ _ _ _ _)
   | (with_reducible exact ih5 _ _ _ _ _ _ _ _ _ _ _ _ _ _ _)
   | (with_reducible exact ih6 _ _ _ _ _ _ _ _ _ _ _ _ _ _ _)
   | (with_reducible exact ih7 _ _ _ _ _ _ _ _ _)
   | (with_reducible exact ih8 _ _ _ _ _ _ _ _ _ _ _ _ _ _ _ _ _)
   | (with_reducible exact ih9 _ _ _ _ _ _ _ _ _ _ _ _ _ _ _ _ _)
   | (with_reducible exact back_Check.mono _ _)
   | (with_reducible exact back_Net.mono _ _ _)
   | (with_reducible exact mootlaw4_corrects.mono _)
   | (with_reducible exact mootlaw4_paysFault.mono _ _)
   | (with_reducible exact LeO.refl _)
   | (with_reducible exact LeO.none _)
   | (with_reducible refine LeO.ite ?_ ?_)
   | (with_reducible refine LeO.bind ?_ (fun _ => ?_))
   | exact ih0 _ _ _ _ _ _
   | exact ih1 _ _ _ _ _
   | exact ih2 _ _ _ _ _ _
   | exact ih3 _ _ _ _ _
   | exact ih4 _ _ _ _ _ _ _ _ _ _
   | exact ih5 _ _ _ _ _ _ _ _ _ _ _ _ _ _ _
   | exact ih6 _ _ _ _ _ _ _ _ _ _ _ _ _ _ _
   | exact ih7 _ _ _ _ _ _ _ _ _
   | exact ih8 _ _ _ _ _ _ _ _ _ _ _ _ _ _ _ _ _
   | exact ih9 _ _ _ _ _ _ _ _ _ _ _ _ _ _ _ _ _
   | exact back_Check.mono _ _
   | exact back_Net.mono _ _ _
   | exact mootlaw4_corrects.mono _
   | exact mootlaw4_paysFault.mono _ _
   | exact LeO.none _
   | refine LeO.ite ?_ ?_
   | refine LeO.bind ?_ (fun _ => ?_)
  ·
   intro y0 y1 y2 y3 y4 y5
   unfold mootlaw4_BackTells.j2
   repeat' first
   | (with_reducible exact ih0 _ _ _ _ _ _)
   | (with_reducible exact ih1 _ _ _ _ _)
   | (with_reducible exact ih2 _ _ _ _ _ _)
   | (with_reducible exact ih3 _ _ _ _ _)
   | (with_reducible exact ih4 _ _ _ _ _ _ _ _ _ _)
   | (with_reducible exact ih5 _ _ _ _ _ _ _ _ _ _ _ _ _ _ _)
   | (with_reducible exact ih6 _ _ _ _ _ _ _ _ _ _ _ _ _ _ _)
   | (with_reducible exact ih7 _ _ _ _ _ _ _ _ _)
   | (with_reducible exact ih8 _ _ _ _ _ _ _ _ _ _ _ _ _ _ _ _ _)
   | (with_reducible exact ih9 _ _ _ _ _ _ _ _ _ _ _ _ _ _ _ _ _)
   | (with_reducible exact back_Check.mono _ _)
   | (with_reducible exact back_Net.mono _ _ _)
   | (with_reducible exact mootlaw4_corrects.mono _)
   | (with_reducible exact mootlaw4_paysFault.mono _ _)
   | (with_reducible exact LeO.refl _)
   | (with_reducible exact LeO.none _)
   | (with_reducible refine LeO.ite ?_ ?_)
   | (with_reducible refine LeO.bind ?_ (fun _ => ?_))
   | exact ih0 _ _ _ _ _ _
   | exact ih1 _ _ _ _ _
   | exact ih2 _ _ _ _ _ _
   | exact ih3 _ _ _ _ _
   | exact ih4 _ _ _ _ _ _ _ _ _ _
   | exact ih5 _ _ _ _ _ _ _ _ _ _ _ _ _ _ _
   | exact ih6 _ _ _ _ _ _ _ _ _ _ _ _ _ _ _
   | exact ih7 _ _ _ _ _ _ _ _ _
   | exact ih8 _ _ _ _ _ _ _ _ _ _ _ _ _ _ _ _ _
   | exact ih9 _ _ _ _ _ _ _ _ _ _ _ _ _ _ _ _ _
   | exact back_Check.mono _ _
   | exact back_Net.mono _ _ _
   | exact mootlaw4_corrects.mono _
   | exact mootlaw4_paysFault.mono _ _
   | exact LeO.none _
   | refine LeO.ite ?_ ?_
   | refine LeO.bind ?_ (fun _ => ?_)
  ·
   intro y0 y1 y2 y3 y4
   unfold mootlaw4_BackTells.j3
   repeat' first
   | (with_reducible exact ih0 _ _ _ _ _ _)
   | (with_reducible exact ih1 _ _ _ _ _)
   | (with_reducible exact ih2 _ _ _ _ _ _)
   | (with_reducible exact ih3 _ _ _ _ _)
   | (with_reducible exact ih4 _ _ _ _ _ _ _ _ _ _)
   | (with_reducible exact ih5 _ _ _ _ _ _ _ _ _ _ _ _ _ _ _)
   | (with_reducible exact ih6 _ _ _ _ _ _ _ _ _ _ _ _ _ _ _)
   | (with_reducible exact ih7 _ _ _ _ _ _ _ _ _)
   | (with_reducible exact ih8 _ _ _ _ _ _ _ _ _ _ _ _ _ _ _ _ _)
   | (with_reducible exact ih9 _ _ _ _ _ _ _ _ _ _ _ _ _ _ _ _ _)
   | (with_reducible exact back_Check.mono _ _)
   | (with_reducible exact back_Net.mono _ _ _)
   | (with_reducible exact mootlaw4_corrects.mono _)
   | (with_reducible exact mootlaw4_paysFault.mono _ _)
   | (with_reducible exact LeO.refl _)
   | (with_reducible exact LeO.none _)
   | (with_reducible refine LeO.ite ?_ ?_)
   | (with_reducible refine LeO.bind ?_ (fun _ => ?_))
   | exact ih0 _ _ _ _ _ _
   | exact ih1 _ _ _ _ _
   | exact ih2 _ _ _ _ _ _
   | exact ih3 _ _ _ _ _
   | exact ih4 _ _ _ _ _ _ _ _ _ _
   | exact ih5 _ _ _ _ _ _ _ _ _ _ _ _ _ _ _
   | exact ih6 _ _ _ _ _ _ _ _ _ _ _ _ _ _ _
   | exact ih7 _ _ _ _ _ _ _ _ _
   | exact ih8 _ _ _ _ _ _ _ _ _ _ _ _ _ _ _ _ _
   | exact ih9 _ _ _ _ _ _ _ _ _ _ _ _ _ _ _ _ _
   | exact back_Check.mono _ _
   | exact back_Net.mono _ _ _
   | exact mootlaw4_corrects.mono _
   | exact mootlaw4_paysFault.mono _ _
   | exact LeO.none _
   | refine LeO.ite ?_ ?_
   | refine LeO.bind ?_ (fun _ => ?_)
  ·
   intro y0 y1 y2 y3 y4 y5 y6 y7 y8 y9
   unfold mootlaw4_BackTells.l0
   repeat' first
   | (with_reducible exact ih0 _ _ _ _ _ _)
   | (with_reducible exact ih1 _ _ _ _ _)
   | (with_reducible exact ih2 _ _ _ _ _ _)
   | (with_reducible exact ih3 _ _ _ _ _)
   | (with_reducible exact ih4 _ _ _ _ _ _ _ _ _ _)
   | (with_reducible exact ih5 _ _ _ _ _ _ _ _ _ _ _ _ _ _ _)
   | (with_reducible exact ih6 _ _ _ _ _ _ _ _ _ _ _ _ _ _ _)
   | (with_reducible exact ih7 _ _ _ _ _ _ _ _ _)
   | (with_reducible exact ih8 _ _ _ _ _ _ _ _ _ _ _ _ _ _ _ _ _)
   | (with_reducible exact ih9 _ _ _ _ _ _ _ _ _ _ _ _ _ _ _ _ _)
   | (with_reducible exact back_Check.mono _ _)
   | (with_reducible exact back_Net.mono _ _ _)
   | (with_reducible exact mootlaw4_corrects.mono _)
   | (with_reducible exact mootlaw4_paysFault.mono _ _)
   | (with_reducible exact LeO.refl _)
   | (with_reducible exact LeO.none _)
   | (with_reducible refine LeO.ite ?_ ?_)
   | (with_reducible refine LeO.bind ?_ (fun _ => ?_))
   | exact ih0 _ _ _ _ _ _
   | exact ih1 _ _ _ _ _
   | exact ih2 _ _ _ _ _ _
   | exact ih3 _ _ _ _ _
   | exact ih4 _ _ _ _ _ _ _ _ _ _
   | exact ih5 _ _ _ _ _ _ _ _ _ _ _ _ _ _ _
   | exact ih6 _ _ _ _ _ _ _ _ _ _ _ _ _ _ _
   | exact ih7 _ _ _ _ _ _ _ _ _
   | exact ih8 _ _ _ _ _ _ _ _ _ _ _ _ _ _ _ _ _
   | exact ih9 _ _ _ _ _ _ _ _ _ _ _ _ _ _ _ _ _
   | exact back_Check.mono _ _
   | exact back_Net.mono _ _ _
   | exact mootlaw4_corrects.mono _
   | exact mootlaw4_paysFault.mono _ _
   | exact LeO.none _
   | refine LeO.ite ?_ ?_
   | refine LeO.bind ?_ (fun _ => ?_)
  ·
   intro y0 y1 y2 y3 y4 y5 y6 y7 y8 y9 y10 y11 y12 y13 y14
   unfold mootlaw4_BackTells.j5
   repeat' first
   | (with_reducible exact ih0 _ _ _ _ _ _)
   | (with_reducible exact ih1 _ _ _ _ _)
   | (with_reducible exact ih2 _ _ _ _ _ _)
   | (with_reducible exact ih3 _ _ _ _ _)
   | (with_reducible exact ih4 _ _ _ _ _ _ _ _ _ _)
   | (with_reducible exact ih5 _ _ _ _ _ _ _ _ _ _ _ _ _ _ _)
   | (with_reducible exact ih6 _ _ _ _ _ _ _ _ _ _ _ _ _ _ _)
   | (with_reducible exact ih7 _ _ _ _ _ _ _ _ _)
   | (with_reducible exact ih8 _ _ _ _ _ _ _ _ _ _ _ _ _ _ _ _ _)
   | (with_reducible exact ih9 _ _ _ _ _ _ _ _ _ _ _ _ _ _ _ _ _)
   | (with_reducible exact back_Check.mono _ _)
   | (with_reducible exact back_Net.mono _ _ _)
   | (with_reducible exact mootlaw4_corrects.mono _)
   | (with_reducible exact mootlaw4_paysFault.mono _ _)
   | (with_reducible exact LeO.refl _)
   | (with_reducible exact LeO.none _)
   | (with_reducible refine LeO.ite ?_ ?_)
   | (with_reducible refine LeO.bind ?_ (fun _ => ?_))
   | exact ih0 _ _ _ _ _ _
   | exact ih1 _ _ _ _ _
   | exact ih2 _ _ _ _ _ _
   | exact ih3 _ _ _ _ _
   | exact ih4 _ _ _ _ _ _ _ _ _ _
   | exact ih5 _ _ _ _ _ _ _ _ _ _ _ _ _ _ _
   | exact ih6 _ _ _ _ _ _ _ _ _ _ _ _ _ _ _
   | exact ih7 _ _ _ _ _ _ _ _ _
   | exact ih8 _ _ _ _ _ _ _ _ _ _ _ _ _ _ _ _ _
   | exact ih9 _ _ _ _ _ _ _ _ _ _ _ _ _ _ _ _ _
   | exact back_Check.mono _ _
   | exact back_Net.mono _ _ _
   | exact mootlaw4_corrects.mono _
   | exact mootlaw4_paysFault.mono _ _
   | exact LeO.none _
   | refine LeO.ite ?_ ?_
   | refine LeO.bind ?_ (fun _ => ?_)
  ·
   intro y0 y1 y2 y3 y4 y5 y6 y7 y8 y9 y10 y11 y12 y13 y14
   unfold mootlaw4_BackTells.j6
   repeat' first
   | (with_reducible exact ih0 _ _ _ _ _ _)
   | (with_reducible exact ih1 _ _ _ _ _)
   | (with_reducible exact ih2 _ _ _ _ _ _)
   | (with_reducible exact ih3 _ _ _ _ _)
   | (with_reducible exact ih4 _ _ _ _ _ _ _ _ _ _)
   | (with_reducible exact ih5 _ _ _ _ _ _ _ _ _ _ _ _ _ _ _)
   | (with_reducible exact ih6 _ _ _ _ _ _ _ _ _ _ _ _ _ _ _)
   | (with_reducible exact ih7 _ _ _ _ _ _ _ _ _)
   | (with_reducible exact ih8 _ _ _ _ _ _ _ _ _ _ _ _ _ _ _ _ _)
   | (with_reducible exact ih9 _ _ _ _ _ _ _ _ _ _ _ _ _ _ _ _ _)
   | (with_reducible exact back_Check.mono _ _)
   | (with_reducible exact back_Net.mono _ _ _)
   | (with_reducible exact mootlaw4_corrects.mono _)
   | (with_reducible exact mootlaw4_paysFault.mono _ _)
   | (with_reducible exact LeO.refl _)
   | (with_reducible exact LeO.none _)
   | (with_reducible refine LeO.ite ?_ ?_)
   | (with_reducible refine LeO.bind ?_ (fun _ => ?_))
   | exact ih0 _ _ _ _ _ _
   | exact ih1 _ _ _ _ _
   | exact ih2 _ _ _ _ _ _
   | exact ih3 _ _ _ _ _
   | exact ih4 _ _ _ _ _ _ _ _ _ _
   | exact ih5 _ _ _ _ _ _ _ _ _ _ _ _ _ _ _
   | exact ih6 _ _ _ _ _ _ _ _ _ _ _ _ _ _ _
   | exact ih7 _ _ _ _ _ _ _ _ _
   | exact ih8 _ _ _ _ _ _ _ _ _ _ _ _ _ _ _ _ _
   | exact ih9 _ _ _ _ _ _ _ _ _ _ _ _ _ _ _ _ _
   | exact back_Check.mono _ _
   | exact back_Net.mono _ _ _
   | exact mootlaw4_corrects.mono _
   | exact mootlaw4_paysFault.mono _ _
   | exact LeO.none _
   | refine LeO.ite ?_ ?_
   | refine LeO.bind ?_ (fun _ => ?_)
  ·
   intro y0 y1 y2 y3 y4 y5 y6 y7 y8
   unfold mootlaw4_BackTells.l1
   repeat' first
   | (with_reducible exact ih0 _ _ _ _ _ _)
   | (with_reducible exact ih1 _ _ _ _ _)
   | (with_reducible exact ih2 _ _ _ _ _ _)
   | (with_reducible exact ih3 _ _ _ _ _)
   | (with_reducible exact ih4 _ _ _ _ _ _ _ _ _ _)
   | (with_reducible exact ih5 _ _ _ _ _ _ _ _ _ _ _ _ _ _ _)
   | (with_reducible exact ih6 _ _ _ _ _ _ _ _ _ _ _ _ _ _ _)
   | (with_reducible exact ih7 _ _ _ _ _ _ _ _ _)
   | (with_reducible exact ih8 _ _ _ _ _ _ _ _ _ _ _ _ _ _ _ _ _)
   | (with_reducible exact ih9 _ _ _ _ _ _ _ _ _ _ _ _ _ _ _ _ _)
   | (with_reducible exact back_Check.mono _ _)
   | (with_reducible exact back_Net.mono _ _ _)
   | (with_reducible exact mootlaw4_corrects.mono _)
   | (with_reducible exact mootlaw4_paysFault.mono _ _)
   | (with_reducible exact LeO.refl _)
   | (with_reducible exact LeO.none _)
   | (with_reducible refine LeO.ite ?_ ?_)
   | (with_reducible refine LeO.bind ?_ (fun _ => ?_))
   | exact ih0 _ _ _ _ _ _
   | exact ih1 _ _ _ _ _
   | exact ih2 _ _ _ _ _ _
   | exact ih3 _ _ _ _ _
   | exact ih4 _ _ _ _ _ _ _ _ _ _
   | exact ih5 _ _ _ _ _ _ _ _ _ _ _ _ _ _ _
   | exact ih6 _ _ _ _ _ _ _ _ _ _ _ _ _ _ _
   | exact ih7 _ _ _ _ _ _ _ _ _
   | exact ih8 _ _ _ _ _ _ _ _ _ _ _ _ _ _ _ _ _
   | exact ih9 _ _ _ _ _ _ _ _ _ _ _ _ _ _ _ _ _
   | exact back_Check.mono _ _
   | exact back_Net.mono _ _ _
   | exact mootlaw4_corrects.mono _
   | exact mootlaw4_paysFault.mono _ _
   | exact LeO.none _
   | refine LeO.ite ?_ ?_
   | refine LeO.bind ?_ (fun _ => ?_)
  ·
   intro y0 y1 y2 y3 y4 y5 y6 y7 y8 y9 y10 y11 y12 y13 y14 y15 y16
   unfold mootlaw4_BackTells.l2
   repeat' first
   | (with_reducible exact ih0 _ _ _ _ _ _)
   | (with_reducible exact ih1 _ _ _ _ _)
   | (with_reducible exact ih2 _ _ _ _ _ _)
   | (with_reducible exact ih3 _ _ _ _ _)
   | (with_reducible exact ih4 _ _ _ _ _ _ _ _ _ _)
   | (with_reducible exact ih5 _ _ _ _ _ _ _ _ _ _ _ _ _ _ _)
   | (with_reducible exact ih6 _ _ _ _ _ _ _ _ _ _ _ _ _ _ _)
   | (with_reducible exact ih7 _ _ _ _ _ _ _ _ _)
   | (with_reducible exact ih8 _ _ _ _ _ _ _ _ _ _ _ _ _ _ _ _ _)
   | (with_reducible exact ih9 _ _ _ _ _ _ _ _ _ _ _ _ _ _ _ _ _)
   | (with_reducible exact back_Check.mono _ _)
   | (with_reducible exact back_Net.mono _ _ _)
   | (with_reducible exact mootlaw4_corrects.mono _)
   | (with_reducible exact mootlaw4_paysFault.mono _ _)
   | (with_reducible exact LeO.refl _)
   | (with_reducible exact LeO.none _)
   | (with_reducible refine LeO.ite ?_ ?_)
   | (with_reducible refine LeO.bind ?_ (fun _ => ?_))
   | exact ih0 _ _ _ _ _ _
   | exact ih1 _ _ _ _ _
   | exact ih2 _ _ _ _ _ _
   | exact ih3 _ _ _ _ _
   | exact ih4 _ _ _ _ _ _ _ _ _ _
   | exact ih5 _ _ _ _ _ _ _ _ _ _ _ _ _ _ _
   | exact ih6 _ _ _ _ _ _ _ _ _ _ _ _ _ _ _
   | exact ih7 _ _ _ _ _ _ _ _ _
   | exact ih8 _ _ _ _ _ _ _ _ _ _ _ _ _ _ _ _ _
   | exact ih9 _ _ _ _ _ _ _ _ _ _ _ _ _ _ _ _ _
   | exact back_Check.mono _ _
   | exact back_Net.mono _ _ _
   | exact mootlaw4_corrects.mono _
   | exact mootlaw4_paysFault.mono _ _
   | exact LeO.none _
   | refine LeO.ite ?_ ?_
   | refine LeO.bind ?_ (fun _ => ?_)
  ·
   intro y0 y1 y2 y3 y4 y5 y6 y7 y8 y9 y10 y11 y12 y13 y14 y15 y16
   unfold mootlaw4_BackTells.l3
   repeat' first
   | (with_reducible exact ih0 _ _ _ _ _ _)
   | (with_reducible exact ih1 _ _ _ _ _)
   | (with_reducible exact ih2 _ _ _ _ _ _)
   | (with_reducible exact ih3 _ _ _ _ _)
   | (with_reducible exact ih4 _ _ _ _ _ _ _ _ _ _)
   | (with_reducible exact ih5 _ _ _ _ _ _ _ _ _ _ _ _ _ _ _)
   | (with_reducible exact ih6 _ _ _ _ _ _ _ _ _ _ _ _ _ _ _)
   | (with_reducible exact ih7 _ _ _ _ _ _ _ _ _)
   | (with_reducible exact ih8 _ _ _ _ _ _ _ _ _ _ _ _ _ _ _ _ _)
   | (with_reducible exact ih9 _ _ _ _ _ _ _ _ _ _ _ _ _ _ _ _ _)
   | (with_reducible exact back_Check.mono _ _)
   | (with_reducible exact back_Net.mono _ _ _)
   | (with_reducible exact mootlaw4_corrects.mono _)
   | (with_reducible exact mootlaw4_paysFault.mono _ _)
   | (with_reducible exact LeO.refl _)
   | (with_reducible exact LeO.none _)
   | (with_reducible refine LeO.ite ?_ ?_)
   | (with_reducible refine LeO.bind ?_ (fun _ => ?_))
   | exact ih0 _ _ _ _ _ _
   | exact ih1 _ _ _ _ _
   | exact ih2 _ _ _ _ _ _
   | exact ih3 _ _ _ _ _
   | exact ih4 _ _ _ _ _ _ _ _ _ _
   | exact ih5 _ _ _ _ _ _ _ _ _ _ _ _ _ _ _
   | exact ih6 _ _ _ _ _ _ _ _ _ _ _ _ _ _ _
   | exact ih7 _ _ _ _ _ _ _ _ _
   | exact ih8 _ _ _ _ _ _ _ _ _ _ _ _ _ _ _ _ _
   | exact ih9 _ _ _ _ _ _ _ _ _ _ _ _ _ _ _ _ _
   | exact back_Check.mono _ _
   | exact back_Net.mono _ _ _
   | exact mootlaw4_corrects.mono _
   | exact mootlaw4_paysFault.mono _ _
   | exact LeO.none _
   | refine LeO.ite ?_ ?_
   | refine LeO.bind ?_ (fun _ => ?_)
theorem mootlaw4_BackTells.mono : ∀ a0 a1 a2 a3 k, LeO (mootlaw4_BackTells.f k a0 a1 a2 a3) (mootlaw4_BackTells.f (k + 1) a0 a1 a2 a3) := by
 intro a0 a1 a2 a3 k
 obtain ⟨ih0, ih1, ih2, ih3, ih4, ih5, ih6, ih7, ih8, ih9⟩ := mootlaw4_BackTells.mono_l k
 unfold mootlaw4_BackTells.f
 repeat' first
   | (with_reducible exact ih0 _ _ _ _ _ _)
   | (with_reducible exact ih1 _ _ _ _ _)
   | (with_reducible exact ih2 _ _ _ _ _ _)
   | (with_reducible exact ih3 _ _ _ _ _)
   | (with_reducible exact ih4 _ _ _ _ _ _ _ _ _ _)
   | (with_reducible exact ih5 _ _ _ _ _ _ _ _ _ _ _ _ _ _ _)
   | (with_reducible exact ih6 _ _ _ _ _ _ _ _ _ _ _ _ _ _ _)
   | (with_reducible exact ih7 _ _ _ _ _ _ _ _ _)
   | (with_reducible exact ih8 _ _ _ _ _ _ _ _ _ _ _ _ _ _ _ _ _)
   | (with_reducible exact ih9 _ _ _ _ _ _ _ _ _ _ _ _ _ _ _ _ _)
   | (with_reducible exact back_Check.mono _ _)
   | (with_reducible exact back_Net.mono _ _ _)
   | (with_reducible exact mootlaw4_corrects.mono _)
   | (with_reducible exact mootlaw4_paysFault.mono _ _)
   | (with_reducible exact LeO.refl _)
   | (with_reducible exact LeO.none _)
   | (with_reducible refine LeO.ite ?_ ?_)
   | (with_reducible refine LeO.bind ?_ (fun _ => ?_))
   | exact ih0 _ _ _ _ _ _
   | exact ih1 _ _ _ _ _
   | exact ih2 _ _ _ _ _ _
   | exact ih3 _ _ _ _ _
   | exact ih4 _ _ _ _ _ _ _ _ _ _
   | exact ih5 _ _ _ _ _ _ _ _ _ _ _ _ _ _ _
   | exact ih6 _ _ _ _ _ _ _ _ _ _ _ _ _ _ _
   | exact ih7 _ _ _ _ _ _ _ _ _
   | exact ih8 _ _ _ _ _ _ _ _ _ _ _ _ _ _ _ _ _
   | exact ih9 _ _ _ _ _ _ _ _ _ _ _ _ _ _ _ _ _
   | exact back_Check.mono _ _
   | exact back_Net.mono _ _ _
   | exact mootlaw4_corrects.mono _
   | exact mootlaw4_paysFault.mono _ _
   | exact LeO.none _
   | refine LeO.ite ?_ ?_
   | refine LeO.bind ?_ (fun _ => ?_)
set_option maxHeartbeats 100000000 in
set_option maxRecDepth 100000 in
theorem mootlaw4_BackTells.calls (k : Nat) (A0 : Option Addr) (c0 : Nat) (l0 : List (S32)) (A1 : Option Addr) (c1 : Nat) (l1 : List (S32)) (a2 : Int) (a3 : Int) (r : Bool) (w : World) (hr0 : Kd.C k32 w A0 l0.length l0) (hc0 : l0.length ≤ c0) (hr1 : Kd.C k32 w A1 l1.length l1) (hc1 : l1.length ≤ c1) (h : mootlaw4_BackTells.f k l0 l1 a2 a3 = some r) :
  Calls Try.prog 6 #[.slice A0 l0.length c0, .slice A1 l1.length c1, .int .i64 a2, .int .i64 a3] w fun e w' => e = .returned (.bool r) ∧ Below w.heap.size w w' := by
 have hu32 := Try.underlying32
 have HR0 := Aside0.mk hr0
 have HC0 := Aside0.mk hc0
 clear hr0 hc0
 have HR1 := Aside0.mk hr1
 have HC1 := Aside0.mk hc1
 clear hr1 hc1
 have HB := Aside0.mk (Below.refl w.heap.size w)
 have H : ((mootlaw4_corrects.f k).bind fun t305 => (if t305 = true then ((mootlaw4_paysFault.f k l0).bind fun t306 => ((back_Check.f k l0).bind fun t307 => (if t307 = t306 then ((back_Check.f k l1).bind fun t308 => ((mootlaw4_paysFault.f k l1).bind fun t309 => (mootlaw4_BackTells.j0 k l0 l1 a2 a3 t306 (t308 != t309)))) else (mootlaw4_BackTells.j0 k l0 l1 a2 a3 t306 true)))) else (some false))) = some r := h
 clear h
 replace H := Option.bind_eq_some_iff.mp H
 obtain ⟨t305, A50, H⟩ := H
 replace H : (if t305 = true then ((mootlaw4_paysFault.f k l0).bind fun t306 => ((back_Check.f k l0).bind fun t307 => (if t307 = t306 then ((back_Check.f k l1).bind fun t308 => ((mootlaw4_paysFault.f k l1).bind fun t309 => (mootlaw4_BackTells.j0 k l0 l1 a2 a3 t306 (t308 != t309)))) else (mootlaw4_BackTells.j0 k l0 l1 a2 a3 t306 true)))) else (some false)) = some r := H
 have A5 := Aside0.mk A50
 clear A50
 by_cases c6 : t305 = true
 ·
  as_aux_lemma =>
   subst c6
   have H1 : ((mootlaw4_paysFault.f k l0).bind fun t306 => ((back_Check.f k l0).bind fun t307 => (if t307 = t306 then ((back_Check.f k l1).bind fun t308 => ((mootlaw4_paysFault.f k l1).bind fun t309 => (mootlaw4_BackTells.j0 k l0 l1 a2 a3 t306 (t308 != t309)))) else (mootlaw4_BackTells.j0 k l0 l1 a2 a3 t306 true)))) = some r := by rw [if_pos rfl] at H; exact H
   clear H
   have H := H1
   clear H1
   replace H := Option.bind_eq_some_iff.mp H
   obtain ⟨t306, A70, H⟩ := H
   replace H : ((back_Check.f k l0).bind fun t307 => (if t307 = t306 then ((back_Check.f k l1).bind fun t308 => ((mootlaw4_paysFault.f k l1).bind fun t309 => (mootlaw4_BackTells.j0 k l0 l1 a2 a3 t306 (t308 != t309)))) else (mootlaw4_BackTells.j0 k l0 l1 a2 a3 t306 true))) = some r := H
   have A7 := Aside0.mk A70
   clear A70
   have HC8 := Aside0.mk H
   clear H
   go_enter Try.func6, Try.ntmps6
   go_upto_region 4 with (first | (go_at_call 18; (with_reducible refine (mootlaw4_corrects.calls k  true _ A5.out).mono ?_); rintro e w9 ⟨rfl, hb⟩; have n0_ := Aside0.mk (below_step (by repeat (first | (with_reducible first | exact HB.out | apply below_alloc | apply pw_below_drewN | apply below_drew1) | exact HB.out)) hb); clear HB; have HB := n0_; clear n0_; (try clear hb); (try clear hb2); (try clear hk); (try clear hi)) | (go_at_call 20; (with_reducible refine (mootlaw4_paysFault.calls k _ _ l0 t306 _ ?side1 ?side2 A7.out).mono ?_); (case side1 => repeat (first | exact (Kd.C_below HR0.out HB.out) | (with_reducible refine Kd.C_alloc ?_ _) | (with_reducible refine Kd.C_drewN ?_ _) | (with_reducible refine Kd.C_drew ?_))); (case side2 => exact HC0.out); rintro e w10 ⟨rfl, hb⟩; have n0_ := Aside0.mk (below_step (by repeat (first | (with_reducible first | exact HB.out | apply below_alloc | apply pw_below_drewN | apply below_drew1) | exact HB.out)) hb); clear HB; have HB := n0_; clear n0_; (try clear hb); (try clear hb2); (try clear hk); (try clear hi)))
   repeat (go_quiet (first | (go_at_call 18; (with_reducible refine (mootlaw4_corrects.calls k  true _ A5.out).mono ?_); rintro e w9 ⟨rfl, hb⟩; have n0_ := Aside0.mk (below_step (by repeat (first | (with_reducible first | exact HB.out | apply below_alloc | apply pw_below_drewN | apply below_drew1) | exact HB.out)) hb); clear HB; have HB := n0_; clear n0_; (try clear hb); (try clear hb2); (try clear hk); (try clear hi)) | (go_at_call 20; (with_reducible refine (mootlaw4_paysFault.calls k _ _ l0 t306 _ ?side1 ?side2 A7.out).mono ?_); (case side1 => repeat (first | exact (Kd.C_below HR0.out HB.out) | (with_reducible refine Kd.C_alloc ?_ _) | (with_reducible refine Kd.C_drewN ?_ _) | (with_reducible refine Kd.C_drew ?_))); (case side2 => exact HC0.out); rintro e w10 ⟨rfl, hb⟩; have n0_ := Aside0.mk (below_step (by repeat (first | (with_reducible first | exact HB.out | apply below_alloc | apply pw_below_drewN | apply below_drew1) | exact HB.out)) hb); clear HB; have HB := n0_; clear n0_; (try clear hb); (try clear hb2); (try clear hk); (try clear hi))); go_upto_region 4 with (fail))
   (try simp only [Act.put, List.setIfInBounds_toArray, List.set_cons_zero, List.set_cons_succ])
   go_cut [39] (fun v39 wc => ∃ (kq : Nat) (x39_7 : Bool), v39 = .bool x39_7 ∧ Aside0 (mootlaw4_BackTells.j0 kq l0 l1 a2 a3 t306 x39_7 = some r) ∧ Aside0 (kq ≤ k) ∧ Aside0 (Below w.heap.size w wc))
   case first =>
    have H := HC8.out
    clear HC8
    replace H := Option.bind_eq_some_iff.mp H
    obtain ⟨t307, A110, H⟩ := H
    replace H : (if t307 = t306 then ((back_Check.f k l1).bind fun t308 => ((mootlaw4_paysFault.f k l1).bind fun t309 => (mootlaw4_BackTells.j0 k l0 l1 a2 a3 t306 (t308 != t309)))) else (mootlaw4_BackTells.j0 k l0 l1 a2 a3 t306 true)) = some r := H
    have A11 := Aside0.mk A110
    clear A110
    by_cases c12 : t307 = t306
    ·
     rw [if_pos c12] at H
     have c12b0 : (t307 == t306) = true := beq_iff_eq.mpr c12
     have c12b1 : (t307 != t306) = false := bne_eq_false_iff_eq.mpr c12
     clear c12
     (first | rw [c12b0] | (simp only [i64_w, i32_w]; rw [c12b0]) | skip)
     replace H := Option.bind_eq_some_iff.mp H
     obtain ⟨t308, A130, H⟩ := H
     replace H : ((mootlaw4_paysFault.f k l1).bind fun t309 => (mootlaw4_BackTells.j0 k l0 l1 a2 a3 t306 (t308 != t309))) = some r := H
     have A13 := Aside0.mk A130
     clear A130
     replace H := Option.bind_eq_some_iff.mp H
     obtain ⟨t309, A140, H⟩ := H
     replace H : (mootlaw4_BackTells.j0 k l0 l1 a2 a3 t306 (t308 != t309)) = some r := H
     have A14 := Aside0.mk A140
     clear A140
     have H' := Aside0.mk H
     clear H
     go_wp2_with (first | (go_at_call 24; (with_reducible refine (back_Check.calls k _ _ l0 t307 _ ?side1 ?side2 A11.out).mono ?_); (case side1 => repeat (first | exact (Kd.C_below HR0.out HB.out) | (with_reducible refine Kd.C_alloc ?_ _) | (with_reducible refine Kd.C_drewN ?_ _) | (with_reducible refine Kd.C_drew ?_))); (case side2 => exact HC0.out); rintro e w15 ⟨rfl, hb⟩; have n0_ := Aside0.mk (below_step (by repeat (first | (with_reducible first | exact HB.out | apply below_alloc | apply pw_below_drewN | apply below_drew1) | exact HB.out)) hb); clear HB; have HB := n0_; clear n0_; (try clear hb); (try clear hb2); (try clear hk); (try clear hi)) | (go_at_call 24; (with_reducible refine (back_Check.calls k _ _ l1 t308 _ ?side1 ?side2 A13.out).mono ?_); (case side1 => repeat (first | exact (Kd.C_below HR1.out HB.out) | (with_reducible refine Kd.C_alloc ?_ _) | (with_reducible refine Kd.C_drewN ?_ _) | (with_reducible refine Kd.C_drew ?_))); (case side2 => exact HC1.out); rintro e w16 ⟨rfl, hb⟩; have n0_ := Aside0.mk (below_step (by repeat (first | (with_reducible first | exact HB.out | apply below_alloc | apply pw_below_drewN | apply below_drew1) | exact HB.out)) hb); clear HB; have HB := n0_; clear n0_; (try clear hb); (try clear hb2); (try clear hk); (try clear hi)) | (go_at_call 20; (with_reducible refine (mootlaw4_paysFault.calls k _ _ l1 t309 _ ?side1 ?side2 A14.out).mono ?_); (case side1 => repeat (first | exact (Kd.C_below HR1.out HB.out) | (with_reducible refine Kd.C_alloc ?_ _) | (with_reducible refine Kd.C_drewN ?_ _) | (with_reducible refine Kd.C_drew ?_))); (case side2 => exact HC1.out); rintro e w17 ⟨rfl, hb⟩; have n0_ := Aside0.mk (below_step (by repeat (first | (with_reducible first | exact HB.out | apply below_alloc | apply pw_below_drewN | apply below_drew1) | exact HB.out)) hb); clear HB; have HB := n0_; clear n0_; (try clear hb); (try clear hb2); (try clear hk); (try clear hi)))
     repeat (go_quiet (fail); try go_wp2)
     go_meet
     case rel => exact ⟨_, ((t308 != t309)), (by first | rfl | (simp; done) | (simp [*]; done)), H', ⟨by first | omega | exact Nat.le_refl _⟩, ⟨by repeat (first | (with_reducible first | exact HB.out | apply below_alloc | apply pw_below_drewN | apply below_drew1) | exact HB.out)⟩⟩
    ·
     rw [if_neg c12] at H
     have c12b0 : (t307 == t306) = false := beq_eq_false_iff_ne.mpr c12
     have c12b1 : (t307 != t306) = true := bne_iff_ne.mpr c12
     (first | rw [c12b0] | (simp only [i64_w, i32_w]; rw [c12b0]) | skip)
     have H' := Aside0.mk H
     clear H
     go_wp2_with (first | (go_at_call 24; (with_reducible refine (back_Check.calls k _ _ l0 t307 _ ?side1 ?side2 A11.out).mono ?_); (case side1 => repeat (first | exact (Kd.C_below HR0.out HB.out) | (with_reducible refine Kd.C_alloc ?_ _) | (with_reducible refine Kd.C_drewN ?_ _) | (with_reducible refine Kd.C_drew ?_))); (case side2 => exact HC0.out); rintro e w18 ⟨rfl, hb⟩; have n0_ := Aside0.mk (below_step (by repeat (first | (with_reducible first | exact HB.out | apply below_alloc | apply pw_below_drewN | apply below_drew1) | exact HB.out)) hb); clear HB; have HB := n0_; clear n0_; (try clear hb); (try clear hb2); (try clear hk); (try clear hi)))
     repeat (go_quiet (fail); try go_wp2)
     go_meet
     case rel => exact ⟨_, (true), (by first | rfl | (simp; done) | (simp [*]; done)), H', ⟨by first | omega | exact Nat.le_refl _⟩, ⟨by repeat (first | (with_reducible first | exact HB.out | apply below_alloc | apply pw_below_drewN | apply below_drew1) | exact HB.out)⟩⟩
   case rest =>
    clear HC8
    try clear c1
    try clear p2
    try clear c6
    try clear c12
    try clear c12b0 c12b1
    obtain ⟨kq, x39_7, rfl, HA, HJ7, HB⟩ := hcut
    cases kq with
    | zero => exact absurd HA.out (by simp [mootlaw4_BackTells.j0])
    | succ kj7 =>
     have H := HA.out
     clear HA
     simp only [mootlaw4_BackTells.j0] at H
     by_cases c19 : x39_7 = true
     ·
      subst c19
      have H1 : (some false) = some r := by rw [if_pos rfl] at H; exact H
      clear H
      have H := H1
      clear H1
      obtain rfl := Option.some.inj H
      go_wp2
      repeat (go_quiet (fail); try go_wp2)
      go_ret
      exact ⟨by first | rfl | (simp [errW_none, errW_some] <;> rfl) | (simp [*, errW_none, errW_some] <;> rfl), by repeat (first | (with_reducible first | exact HB.out | apply below_alloc | apply pw_below_drewN | apply below_drew1) | exact HB.out)⟩
     ·
      as_aux_lemma =>
       replace c19 := Bool.eq_false_iff.mpr c19
       subst c19
       have H1 : (if t306 = 0 then ((mootlaw4_paysFault.f kj7 l1).bind fun t310 => (mootlaw4_BackTells.j1 kj7 l0 l1 a2 a3 t310)) else (mootlaw4_BackTells.j1 kj7 l0 l1 a2 a3 t306)) = some r := by rw [if_neg (show ¬ (false = true) by decide)] at H; exact H
       clear H
       have H := H1
       clear H1
       have HC20 := Aside0.mk H
       clear H
       go_upto_if 41 with (fail)
       repeat (go_quiet (fail); go_upto_if 41 with (fail))
       go_cut [9] (fun v9 wc => ∃ (kq : Nat) (x9_19 : Int), v9 = .int .i64 x9_19 ∧ Aside0 (mootlaw4_BackTells.j1 kq l0 l1 a2 a3 x9_19 = some r) ∧ Aside0 (kq ≤ kj7) ∧ Aside0 (Below w.heap.size w wc))
       case first =>
        have H := HC20.out
        clear HC20
        by_cases c21 : t306 = 0
        ·
         rw [if_pos c21] at H
         have c21b0 : (t306 == 0) = true := beq_iff_eq.mpr c21
         have c21b1 : (t306 != 0) = false := bne_eq_false_iff_eq.mpr c21
         clear c21
         (first | rw [c21b0] | (simp only [i64_w, i32_w]; rw [c21b0]) | skip)
         replace H := Option.bind_eq_some_iff.mp H
         obtain ⟨t310, A220, H⟩ := H
         replace H : (mootlaw4_BackTells.j1 kj7 l0 l1 a2 a3 t310) = some r := H
         have A22 := Aside0.mk A220
         clear A220
         have H' := Aside0.mk H
         clear H
         go_wp2_with (first | (go_at_call 20; (with_reducible refine (mootlaw4_paysFault.calls kj7 _ _ l1 t310 _ ?side1 ?side2 A22.out).mono ?_); (case side1 => repeat (first | exact (Kd.C_below HR1.out HB.out) | (with_reducible refine Kd.C_alloc ?_ _) | (with_reducible refine Kd.C_drewN ?_ _) | (with_reducible refine Kd.C_drew ?_))); (case side2 => exact HC1.out); rintro e w23 ⟨rfl, hb⟩; have n0_ := Aside0.mk (below_step (by repeat (first | (with_reducible first | exact HB.out | apply below_alloc | apply pw_below_drewN | apply below_drew1) | exact HB.out)) hb); clear HB; have HB := n0_; clear n0_; (try clear hb); (try clear hb2); (try clear hk); (try clear hi)))
         repeat (go_quiet (fail); try go_wp2)
         go_meet
         case rel => exact ⟨_, (t310), (by first | rfl | (simp; done) | (simp [*]; done)), H', ⟨by have := HJ7.out; first | omega | exact Nat.le_refl _⟩, ⟨by repeat (first | (with_reducible first | exact HB.out | apply below_alloc | apply pw_below_drewN | apply below_drew1) | exact HB.out)⟩⟩
        ·
         rw [if_neg c21] at H
         have c21b0 : (t306 == 0) = false := beq_eq_false_iff_ne.mpr c21
         have c21b1 : (t306 != 0) = true := bne_iff_ne.mpr c21
         (first | rw [c21b0] | (simp only [i64_w, i32_w]; rw [c21b0]) | skip)
         have H' := Aside0.mk H
         clear H
         go_wp2
         repeat (go_quiet (fail); try go_wp2)
         go_meet
         case rel => exact ⟨_, (t306), (by first | rfl | (simp; done) | (simp [*]; done)), H', ⟨by have := HJ7.out; first | omega | exact Nat.le_refl _⟩, ⟨by repeat (first | (with_reducible first | exact HB.out | apply below_alloc | apply pw_below_drewN | apply below_drew1) | exact HB.out)⟩⟩
       case rest =>
        clear HC20
        try clear c1
        try clear c2
        try clear p2
        try clear c6
        try clear c12
        try clear c12b0 c12b1
        try clear c19
        try clear c21
        try clear c21b0 c21b1
        try clear p2
        obtain ⟨kq, x9_19, rfl, HA, HJ19, HB⟩ := hcut
        cases kq with
        | zero => exact absurd HA.out (by simp [mootlaw4_BackTells.j1])
        | succ kj19 =>
         have H := HA.out
         clear HA
         simp only [mootlaw4_BackTells.j1] at H
         have HC24 := Aside0.mk H
         clear H
         go_upto_region 8 with (fail)
         repeat (go_quiet (fail); go_upto_region 8 with (fail))
         go_cut [53] (fun v53 wc => ∃ (kq : Nat) (x53_23 : Bool), v53 = .bool x53_23 ∧ Aside0 (mootlaw4_BackTells.j2 kq l0 l1 a2 a3 x9_19 x53_23 = some r) ∧ Aside0 (kq ≤ kj19) ∧ Aside0 (Below w.heap.size w wc))
         case first =>
          have H := HC24.out
          clear HC24
          by_cases c25 : x9_19 = 0
          ·
           rw [if_pos c25] at H
           have c25b0 : (x9_19 == 0) = true := beq_iff_eq.mpr c25
           have c25b1 : (x9_19 != 0) = false := bne_eq_false_iff_eq.mpr c25
           clear c25
           (first | rw [c25b0] | (simp only [i64_w, i32_w]; rw [c25b0]) | skip)
           by_cases c26 : a2 < 0
           ·
            rw [if_pos c26] at H
            have c26b0 : decide (a2 < 0) = true := decide_eq_true c26
            clear c26
            have H' := Aside0.mk H
            clear H
            go_wp2
            repeat (go_quiet (fail); try go_wp2)
            go_meet
            case rel => exact ⟨_, (true), (by first | rfl | (simp; done) | (simp [*]; done)), H', ⟨by have := HJ7.out; have := HJ19.out; first | omega | exact Nat.le_refl _⟩, ⟨by repeat (first | (with_reducible first | exact HB.out | apply below_alloc | apply pw_below_drewN | apply below_drew1) | exact HB.out)⟩⟩
           ·
            rw [if_neg c26] at H
            have c26b0 : decide (a2 < 0) = false := decide_eq_false c26
            clear c26
            have H' := Aside0.mk H
            clear H
            go_wp2
            repeat (go_quiet (fail); try go_wp2)
            go_meet
            case rel => exact ⟨_, (decide (a2 > 1048575)), (by first | rfl | (simp; done) | (simp [*]; done)), H', ⟨by have := HJ7.out; have := HJ19.out; first | omega | exact Nat.le_refl _⟩, ⟨by repeat (first | (with_reducible first | exact HB.out | apply below_alloc | apply pw_below_drewN | apply below_drew1) | exact HB.out)⟩⟩
          ·
           rw [if_neg c25] at H
           have c25b0 : (x9_19 == 0) = false := beq_eq_false_iff_ne.mpr c25
           have c25b1 : (x9_19 != 0) = true := bne_iff_ne.mpr c25
           (first | rw [c25b0] | (simp only [i64_w, i32_w]; rw [c25b0]) | skip)
           have H' := Aside0.mk H
           clear H
           go_wp2
           repeat (go_quiet (fail); try go_wp2)
           go_meet
           case rel => exact ⟨_, (false), (by first | rfl | (simp; done) | (simp [*]; done)), H', ⟨by have := HJ7.out; have := HJ19.out; first | omega | exact Nat.le_refl _⟩, ⟨by repeat (first | (with_reducible first | exact HB.out | apply below_alloc | apply pw_below_drewN | apply below_drew1) | exact HB.out)⟩⟩
         case rest =>
          clear HC24
          try clear c1
          try clear c2
          try clear p2
          try clear c6
          try clear c12
          try clear c12b0 c12b1
          try clear c19
          try clear c21
          try clear c21b0 c21b1
          try clear c25
          try clear c25b0 c25b1
          try clear c26
          try clear c26b0
          try clear p2
          obtain ⟨kq, x53_23, rfl, HA, HJ23, HB⟩ := hcut
          cases kq with
          | zero => exact absurd HA.out (by simp [mootlaw4_BackTells.j2])
          | succ kj23 =>
           have H := HA.out
           clear HA
           simp only [mootlaw4_BackTells.j2] at H
           have HC27 := Aside0.mk H
           clear H
           go_upto_if 53 with (fail)
           repeat (go_quiet (fail); go_upto_if 53 with (fail))
           go_cut [9] (fun v9 wc => ∃ (kq : Nat) (x9_26 : Int), v9 = .int .i64 x9_26 ∧ Aside0 (mootlaw4_BackTells.j3 kq l0 l1 a2 a3 x9_26 = some r) ∧ Aside0 (kq ≤ kj23) ∧ Aside0 (Below w.heap.size w wc))
           case first =>
            have H := HC27.out
            clear HC27
            by_cases c28 : x53_23 = true
            ·
             subst c28
             have H1 : (mootlaw4_BackTells.j3 kj23 l0 l1 a2 a3 1) = some r := by rw [if_pos rfl] at H; exact H
             clear H
             have H := H1
             clear H1
             have H' := Aside0.mk H
             clear H
             go_wp2
             repeat (go_quiet (fail); try go_wp2)
             go_meet
             case rel => exact ⟨_, (1), (by first | rfl | (simp; done) | (simp [*]; done)), H', ⟨by have := HJ7.out; have := HJ19.out; have := HJ23.out; first | omega | exact Nat.le_refl _⟩, ⟨by repeat (first | (with_reducible first | exact HB.out | apply below_alloc | apply pw_below_drewN | apply below_drew1) | exact HB.out)⟩⟩
            ·
             replace c28 := Bool.eq_false_iff.mpr c28
             subst c28
             have H1 : (mootlaw4_BackTells.j3 kj23 l0 l1 a2 a3 x9_19) = some r := by rw [if_neg (show ¬ (false = true) by decide)] at H; exact H
             clear H
             have H := H1
             clear H1
             have H' := Aside0.mk H
             clear H
             go_wp2
             repeat (go_quiet (fail); try go_wp2)
             go_meet
             case rel => exact ⟨_, (x9_19), (by first | rfl | (simp; done) | (simp [*]; done)), H', ⟨by have := HJ7.out; have := HJ19.out; have := HJ23.out; first | omega | exact Nat.le_refl _⟩, ⟨by repeat (first | (with_reducible first | exact HB.out | apply below_alloc | apply pw_below_drewN | apply below_drew1) | exact HB.out)⟩⟩
           case rest =>
            clear HC27
            try clear c1
            try clear c2
            try clear p2
            try clear c6
            try clear c12
            try clear c12b0 c12b1
            try clear c19
            try clear c21
            try clear c21b0 c21b1
            try clear c25
            try clear c25b0 c25b1
            try clear c26
            try clear c26b0
            try clear c28
            try clear p2
            obtain ⟨kq, x9_26, rfl, HA, HJ26, HB⟩ := hcut
            cases kq with
            | zero => exact absurd HA.out (by simp [mootlaw4_BackTells.j3])
            | succ kj26 =>
             have H := HA.out
             clear HA
             simp only [mootlaw4_BackTells.j3] at H
             replace H := Option.bind_eq_some_iff.mp H
             obtain ⟨⟨t311, t312⟩, A290, H⟩ := H
             replace H : (if x9_26 = 0 then (if t312 = 0 then (mootlaw4_BackTells.l0 kj26 l0 l1 a2 a3 t311 0 0 t311 (t311.length : Int) 0) else (some false)) else (if t312 = x9_26 then (some ((t311.length : Int) == 0)) else (some false))) = some r := H
             have A29 := Aside0.mk A290
             clear A290
             by_cases c30 : x9_26 = 0
             ·
              as_aux_lemma =>
               rw [if_pos c30] at H
               have c30b0 : (x9_26 == 0) = true := beq_iff_eq.mpr c30
               have c30b1 : (x9_26 != 0) = false := bne_eq_false_iff_eq.mpr c30
               clear c30
               by_cases c31 : t312 = 0
               ·
                as_aux_lemma =>
                 rw [if_pos c31] at H
                 have c31b0 : (t312 == 0) = true := beq_iff_eq.mpr c31
                 have c31b1 : (t312 != 0) = false := bne_eq_false_iff_eq.mpr c31
                 clear c31
                 have H' := Aside0.mk H
                 clear H
                 go_wp2_with (first | (go_at_call 15; (with_reducible refine (back_Correct.calls _ _ l0 _ _ l1 a2 t311 t312 _ ?side1 ?side2 ?side3 ?side4 A29.out).mono ?_); (case side1 => repeat (first | exact (Kd.C_below HR0.out HB.out) | (with_reducible refine Kd.C_alloc ?_ _) | (with_reducible refine Kd.C_drewN ?_ _) | (with_reducible refine Kd.C_drew ?_))); (case side2 => exact HC0.out); (case side3 => repeat (first | exact (Kd.C_below HR1.out HB.out) | (with_reducible refine Kd.C_alloc ?_ _) | (with_reducible refine Kd.C_drewN ?_ _) | (with_reducible refine Kd.C_drew ?_))); (case side4 => exact HC1.out); rintro e w32 ⟨v313, rfl, ho0, hb⟩; have n0_ := Aside0.mk (Kd.R_lower ho0 (below_size (by repeat (first | (with_reducible first | exact HB.out | apply below_alloc | apply pw_below_drewN | apply below_drew1) | exact HB.out)))); have n1_ := Aside0.mk (below_step (by repeat (first | (with_reducible first | exact HB.out | apply below_alloc | apply pw_below_drewN | apply below_drew1) | exact HB.out)) hb); clear HB; have HO314 := n0_; have HB := n1_; clear n0_ n1_; (try clear hb); (try clear hb2); (try clear hk); (try clear hi); (try clear ho0); obtain ⟨Ao33, co33, eo33⟩ := Kd.R_slice HO314.out; subst eo33))
                 repeat (go_quiet (fail); try go_wp2)
                 go_loopg [12, 13, 75] kj26 (fun kq v12 v13 v75 w' => ∃ (x12_5 : Int) (x13_5 : Int) (x75_5 : Int), v12 = .int .i64 x12_5 ∧ v13 = .int .i64 x13_5 ∧ v75 = .int .i64 x75_5 ∧ Aside0 (mootlaw4_BackTells.l0 kq l0 l1 a2 a3 t311 x12_5 x13_5 t311 (t311.length : Int) x75_5 = some r) ∧ Aside0 (kq ≤ kj26) ∧ Aside0 (Kd.R k32 32 w' w.heap.size (fun _ => True) (.slice Ao33 t311.length co33) t311) ∧ Aside0 (Kd.R k32 32 w' w.heap.size (fun _ => True) (.slice Ao33 t311.length co33) t311) ∧ Aside0 (Below w.heap.size w w'))
                 case atStart => exact ⟨(0), (0), (0), (by first | rfl | (simp; done) | (simp [*]; done)), (by first | rfl | (simp; done) | (simp [*]; done)), (by first | rfl | (simp; done) | (simp [*]; done)), H', ⟨Nat.le_refl _⟩, ⟨by (with_reducible repeat (first | apply Kd.R_alloc | apply Kd.R_drewN | apply Kd.R_drew)); exact HO314.out⟩, ⟨by (with_reducible repeat (first | apply Kd.R_alloc | apply Kd.R_drewN | apply Kd.R_drew)); exact HO314.out⟩, ⟨by repeat (first | (with_reducible first | exact HB.out | apply below_alloc | apply pw_below_drewN | apply below_drew1) | exact HB.out)⟩⟩
                 case round =>
                  clear H'
                  try clear c1
                  try clear c2
                  try clear p2
                  try clear c3
                  try clear c6
                  try clear c12
                  try clear c12b0 c12b1
                  try clear c19
                  try clear c21
                  try clear c21b0 c21b1
                  try clear c25
                  try clear c25b0 c25b1
                  try clear c26
                  try clear c26b0
                  try clear c28
                  try clear c30
                  try clear c30b0 c30b1
                  try clear c31
                  try clear c31b0 c31b1
                  try clear p2
                  obtain ⟨x12_5, x13_5, x75_5, rfl, rfl, rfl, HA, HK5, HO_10, HO_73, HB⟩ := hrel
                  cases gk with
                  | zero => exact absurd HA.out (by simp [mootlaw4_BackTells.l0])
                  | succ k5 =>
                   have H := HA.out
                   clear HA
                   simp only [mootlaw4_BackTells.l0] at H
                   by_cases c34 : x75_5 < (t311.length : Int)
                   ·
                    as_aux_lemma =>
                     rw [if_pos c34] at H
                     have c34b0 : decide (x75_5 < (t311.length : Int)) = true := decide_eq_true c34
                     clear c34
                     by_cases c35 : 0 ≤ x75_5
                     rotate_left
                     ·
                      rw [if_neg c35] at H
                      exact absurd H (by simp)
                     rw [if_pos c35] at H
                     have c35b0 : decide (0 ≤ x75_5) = true := decide_eq_true c35
                     clear c35
                     by_cases c36 : x75_5 < (t311.length : Int)
                     rotate_left
                     ·
                      rw [if_neg c36] at H
                      exact absurd H (by simp)
                     rw [if_pos c36] at H
                     have c36b0 : decide (x75_5 < (t311.length : Int)) = true := decide_eq_true c36
                     clear c36
                     have HC37 := Aside0.mk H
                     clear H
                     have p315 : 0 ≤ (x75_5 : Int) := of_decide_eq_true (by first | (with_reducible assumption) | assumption)
                     have q315 : x75_5 < (t311.length : Int) := of_decide_eq_true (by first | (with_reducible assumption) | assumption)
                     obtain ⟨ad315, e315, hx315_0, hx315_1, hx315_2, hx315_3⟩ := at_T32 (Kd.R_reads' HO_73.out).2.2 x75_5 p315 q315
                     cases e315
                     replace p315 := eq_true p315
                     replace q315 := eq_true q315
                     go_upto_region 19 with (first | ((with_reducible refine gate_dst (N := 15) rfl ?_); (try (refine gate_guard (by rfl) ?_; dsimp only)); refine box_event ?hg (N := 15) ?hd (cs := #[.int .i64 0, .int .i64 0, .int .i64 0, .int .i64 0]) (t := 32) ?hr ?_; (case hd => rfl); (case hg => rfl); (case hr => first | (go_simp; done) | (go_simp; rfl)); intro gb316 hg w38 hbox hb; have n0_ := Aside0.mk (Kd.R_below (Kd.R_elderB (by (with_reducible repeat (first | apply Kd.R_alloc | apply Kd.R_drewN | apply Kd.R_drew)); exact HO_10.out) gb316 (Nat.le_of_eq hg.symm)) hb); have n1_ := Aside0.mk (Kd.R_below (Kd.R_elderB (by (with_reducible repeat (first | apply Kd.R_alloc | apply Kd.R_drewN | apply Kd.R_drew)); exact HO_73.out) gb316 (Nat.le_of_eq hg.symm)) hb); have n2_ := Aside0.mk (below_step (by repeat (first | (with_reducible first | exact HB.out | apply below_alloc | apply pw_below_drewN | apply below_drew1) | exact HB.out)) hb); have n3_ := Aside0.mk (hbox); have n4_ := Aside0.mk ((by rw [hg]; exact (below_size (by repeat (first | (with_reducible first | exact HB.out | apply below_alloc | apply pw_below_drewN | apply below_drew1) | exact HB.out))) : w.heap.size ≤ gb316)); have n5_ := Aside0.mk ((by rw [hg]; exact (below_size (by repeat (first | (with_reducible first | exact HB.out | apply below_alloc | apply pw_below_drewN | apply below_drew1) | exact HB.out))) : w.heap.size ≤ gb316)); clear HO_10; clear HO_73; clear HB; have HO_10 := n0_; have HO_73 := n1_; have HB := n2_; have BK316 := n3_; have GW316 := n4_; have GE316 := n5_; clear n0_ n1_ n2_ n3_ n4_ n5_; clear hb hbox hg; have hcz39_0 : w38.cell? ⟨gb316, 0, none⟩ = some (.int .i64 0) := (blk_cell BK316.out 0).trans rfl; have hcz39_1 : w38.cell? ⟨gb316, 1, none⟩ = some (.int .i64 0) := (blk_cell BK316.out 1).trans rfl; have hcz39_2 : w38.cell? ⟨gb316, 2, none⟩ = some (.int .i64 0) := (blk_cell BK316.out 2).trans rfl; have hcz39_3 : w38.cell? ⟨gb316, 3, none⟩ = some (.int .i64 0) := (blk_cell BK316.out 3).trans rfl; have hfz39_0 := blk_frozen BK316.out 0; have hfz39_1 := blk_frozen BK316.out 1; have hfz39_2 := blk_frozen BK316.out 2; have hfz39_3 := blk_frozen BK316.out 3))
                     repeat (go_quiet (first | ((with_reducible refine gate_dst (N := 15) rfl ?_); (try (refine gate_guard (by rfl) ?_; dsimp only)); refine box_event ?hg (N := 15) ?hd (cs := #[.int .i64 0, .int .i64 0, .int .i64 0, .int .i64 0]) (t := 32) ?hr ?_; (case hd => rfl); (case hg => rfl); (case hr => first | (go_simp; done) | (go_simp; rfl)); intro gb316 hg w38 hbox hb; have n0_ := Aside0.mk (Kd.R_below (Kd.R_elderB (by (with_reducible repeat (first | apply Kd.R_alloc | apply Kd.R_drewN | apply Kd.R_drew)); exact HO_10.out) gb316 (Nat.le_of_eq hg.symm)) hb); have n1_ := Aside0.mk (Kd.R_below (Kd.R_elderB (by (with_reducible repeat (first | apply Kd.R_alloc | apply Kd.R_drewN | apply Kd.R_drew)); exact HO_73.out) gb316 (Nat.le_of_eq hg.symm)) hb); have n2_ := Aside0.mk (below_step (by repeat (first | (with_reducible first | exact HB.out | apply below_alloc | apply pw_below_drewN | apply below_drew1) | exact HB.out)) hb); have n3_ := Aside0.mk (hbox); have n4_ := Aside0.mk ((by rw [hg]; exact (below_size (by repeat (first | (with_reducible first | exact HB.out | apply below_alloc | apply pw_below_drewN | apply below_drew1) | exact HB.out))) : w.heap.size ≤ gb316)); have n5_ := Aside0.mk ((by rw [hg]; exact (below_size (by repeat (first | (with_reducible first | exact HB.out | apply below_alloc | apply pw_below_drewN | apply below_drew1) | exact HB.out))) : w.heap.size ≤ gb316)); clear HO_10; clear HO_73; clear HB; have HO_10 := n0_; have HO_73 := n1_; have HB := n2_; have BK316 := n3_; have GW316 := n4_; have GE316 := n5_; clear n0_ n1_ n2_ n3_ n4_ n5_; clear hb hbox hg; have hcz39_0 : w38.cell? ⟨gb316, 0, none⟩ = some (.int .i64 0) := (blk_cell BK316.out 0).trans rfl; have hcz39_1 : w38.cell? ⟨gb316, 1, none⟩ = some (.int .i64 0) := (blk_cell BK316.out 1).trans rfl; have hcz39_2 : w38.cell? ⟨gb316, 2, none⟩ = some (.int .i64 0) := (blk_cell BK316.out 2).trans rfl; have hcz39_3 : w38.cell? ⟨gb316, 3, none⟩ = some (.int .i64 0) := (blk_cell BK316.out 3).trans rfl; have hfz39_0 := blk_frozen BK316.out 0; have hfz39_1 := blk_frozen BK316.out 1; have hfz39_2 := blk_frozen BK316.out 2; have hfz39_3 := blk_frozen BK316.out 3)); go_upto_region 19 with (fail))
                     (try simp only [Act.put, List.setIfInBounds_toArray, List.set_cons_zero, List.set_cons_succ])
                     go_cut [125] (fun v125 wc => ∃ (kq : Nat) (x125_36 : Bool), v125 = .bool x125_36 ∧ Aside0 (mootlaw4_BackTells.j5 kq l0 l1 a2 a3 t311 x12_5 x13_5 t311 (t311.length : Int) x75_5 x125_36 ((rd_T32 t311 x75_5).f0) ((rd_T32 t311 x75_5).f1) ((rd_T32 t311 x75_5).f2) ((rd_T32 t311 x75_5).f3) = some r) ∧ Aside0 (kq ≤ k5) ∧ Aside0 (Kd.R k32 32 wc w.heap.size (fun k_ => k_ ≠ gb316) (.slice (some ad315) t311.length co33) t311) ∧ Aside0 (Kd.R k32 32 wc w.heap.size (fun k_ => k_ ≠ gb316) (.slice (some ad315) t311.length co33) t311) ∧ Aside0 (wc.heap[gb316]? = some (.cells #[.int .i64 ((rd_T32 t311 x75_5).f0), .int .i64 ((rd_T32 t311 x75_5).f1), .int .i64 ((rd_T32 t311 x75_5).f2), .int .i64 ((rd_T32 t311 x75_5).f3)] 32 (0, 0))) ∧ Aside0 (Below w.heap.size w wc))
                     case first =>
                      have H := HC37.out
                      clear HC37
                      by_cases c40 : ((rd_T32 t311 x75_5).f2) = 0
                      ·
                       rw [if_pos c40] at H
                       have c40b0 : (((rd_T32 t311 x75_5).f2) == 0) = true := beq_iff_eq.mpr c40
                       have c40b1 : (((rd_T32 t311 x75_5).f2) != 0) = false := bne_eq_false_iff_eq.mpr c40
                       clear c40
                       (first | rw [c40b0] | (simp only [i64_w, i32_w]; rw [c40b0]) | skip)
                       have H' := Aside0.mk H
                       clear H
                       have hcz41_0 : w38.cell? ⟨gb316, 0, none⟩ = some (.int .i64 0) := (blk_cell BK316.out 0).trans rfl
                       have hcz41_1 : w38.cell? ⟨gb316, 1, none⟩ = some (.int .i64 0) := (blk_cell BK316.out 1).trans rfl
                       have hcz41_2 : w38.cell? ⟨gb316, 2, none⟩ = some (.int .i64 0) := (blk_cell BK316.out 2).trans rfl
                       have hcz41_3 : w38.cell? ⟨gb316, 3, none⟩ = some (.int .i64 0) := (blk_cell BK316.out 3).trans rfl
                       have hfz41_0 := blk_frozen BK316.out 0
                       have hfz41_1 := blk_frozen BK316.out 1
                       have hfz41_2 := blk_frozen BK316.out 2
                       have hfz41_3 := blk_frozen BK316.out 3
                       go_wp2
                       repeat (go_quiet (fail); try go_wp2)
                       go_meet
                       case rel => exact ⟨_, (true), (by first | rfl | (simp; done) | (simp [*]; done)), H', ⟨by have := HJ7.out; have := HJ19.out; have := HJ23.out; have := HJ26.out; have := HK5.out; first | omega | exact Nat.le_refl _⟩, ⟨by (with_reducible repeat (first | apply Kd.R_alloc | apply Kd.R_drewN | apply Kd.R_drew)); exact Kd.R_mono (Kd.R_far (p := ⟨gb316, 3, none⟩) (Kd.R_far (p := ⟨gb316, 2, none⟩) (Kd.R_far (p := ⟨gb316, 1, none⟩) (Kd.R_far (p := ⟨gb316, 0, none⟩) (Kd.R_mono HO_10.out (fun k_ hk => (⟨hk, hk.2⟩ : _ ∧ k_ ≠ gb316))) (fun _ hk => hk.2) (.int .i64 ((rd_T32 t311 x75_5).f0))) (fun _ hk => hk.2) (.int .i64 ((rd_T32 t311 x75_5).f1))) (fun _ hk => hk.2) (.int .i64 ((rd_T32 t311 x75_5).f2))) (fun _ hk => hk.2) (.int .i64 ((rd_T32 t311 x75_5).f3))) (fun _ hk => hk.1.2)⟩, ⟨by (with_reducible repeat (first | apply Kd.R_alloc | apply Kd.R_drewN | apply Kd.R_drew)); exact Kd.R_mono (Kd.R_far (p := ⟨gb316, 3, none⟩) (Kd.R_far (p := ⟨gb316, 2, none⟩) (Kd.R_far (p := ⟨gb316, 1, none⟩) (Kd.R_far (p := ⟨gb316, 0, none⟩) (Kd.R_mono HO_73.out (fun k_ hk => (⟨hk, hk.2⟩ : _ ∧ k_ ≠ gb316))) (fun _ hk => hk.2) (.int .i64 ((rd_T32 t311 x75_5).f0))) (fun _ hk => hk.2) (.int .i64 ((rd_T32 t311 x75_5).f1))) (fun _ hk => hk.2) (.int .i64 ((rd_T32 t311 x75_5).f2))) (fun _ hk => hk.2) (.int .i64 ((rd_T32 t311 x75_5).f3))) (fun _ hk => hk.1.2)⟩, ⟨by (with_reducible repeat (first | refine blk_drewN ?_ _ | refine blk_drew ?_ | refine blk_alloc ?_ _)); refine blk_put (cs := #[.int .i64 ((rd_T32 t311 x75_5).f0), .int .i64 ((rd_T32 t311 x75_5).f1), .int .i64 ((rd_T32 t311 x75_5).f2), .int .i64 0]) ?_ 3 _ rfl; (with_reducible repeat (first | refine blk_drewN ?_ _ | refine blk_drew ?_ | refine blk_alloc ?_ _)); refine blk_put (cs := #[.int .i64 ((rd_T32 t311 x75_5).f0), .int .i64 ((rd_T32 t311 x75_5).f1), .int .i64 0, .int .i64 0]) ?_ 2 _ rfl; (with_reducible repeat (first | refine blk_drewN ?_ _ | refine blk_drew ?_ | refine blk_alloc ?_ _)); refine blk_put (cs := #[.int .i64 ((rd_T32 t311 x75_5).f0), .int .i64 0, .int .i64 0, .int .i64 0]) ?_ 1 _ rfl; (with_reducible repeat (first | refine blk_drewN ?_ _ | refine blk_drew ?_ | refine blk_alloc ?_ _)); refine blk_put (cs := #[.int .i64 0, .int .i64 0, .int .i64 0, .int .i64 0]) ?_ 0 _ rfl; (with_reducible repeat (first | refine blk_drewN ?_ _ | refine blk_drew ?_ | refine blk_alloc ?_ _)); exact BK316.out⟩, ⟨by repeat (first | (with_reducible first | exact HB.out | apply below_alloc | apply pw_below_drewN | apply below_drew1 | refine below_set ?_ GE316.out) | exact HB.out)⟩⟩
                      ·
                       as_aux_lemma =>
                        rw [if_neg c40] at H
                        have c40b0 : (((rd_T32 t311 x75_5).f2) == 0) = false := beq_eq_false_iff_ne.mpr c40
                        have c40b1 : (((rd_T32 t311 x75_5).f2) != 0) = true := bne_iff_ne.mpr c40
                        (first | rw [c40b0] | (simp only [i64_w, i32_w]; rw [c40b0]) | skip)
                        by_cases c42 : ((rd_T32 t311 x75_5).f3) = a2
                        ·
                         as_aux_lemma =>
                          rw [if_pos c42] at H
                          have c42b0 : (((rd_T32 t311 x75_5).f3) == a2) = true := beq_iff_eq.mpr c42
                          have c42b1 : (((rd_T32 t311 x75_5).f3) != a2) = false := bne_eq_false_iff_eq.mpr c42
                          clear c42
                          by_cases c43 : x75_5 > 0
                          ·
                           as_aux_lemma =>
                            rw [if_pos c43] at H
                            have c43b0 : decide (0 < x75_5) = true := decide_eq_true c43
                            clear c43
                            obtain ⟨ji44, hji44⟩ : ∃ j_ : Int, (wrap64 (x75_5 - 1)) = j_ := ⟨_, rfl⟩
                            replace H : (if 0 ≤ (ji44) then (if (ji44) < (t311.length : Int) then (if ((rd_T32 t311 (ji44)).f0) > ((rd_T32 t311 x75_5).f0) then (mootlaw4_BackTells.j5 k5 l0 l1 a2 a3 t311 x12_5 x13_5 t311 (t311.length : Int) x75_5 true ((rd_T32 t311 x75_5).f0) ((rd_T32 t311 x75_5).f1) ((rd_T32 t311 x75_5).f2) ((rd_T32 t311 x75_5).f3)) else (if ((rd_T32 t311 (ji44)).f0) = ((rd_T32 t311 x75_5).f0) then (mootlaw4_BackTells.j5 k5 l0 l1 a2 a3 t311 x12_5 x13_5 t311 (t311.length : Int) x75_5 (decide (((rd_T32 t311 (ji44)).f1) ≥ ((rd_T32 t311 x75_5).f1))) ((rd_T32 t311 x75_5).f0) ((rd_T32 t311 x75_5).f1) ((rd_T32 t311 x75_5).f2) ((rd_T32 t311 x75_5).f3)) else (mootlaw4_BackTells.j5 k5 l0 l1 a2 a3 t311 x12_5 x13_5 t311 (t311.length : Int) x75_5 false ((rd_T32 t311 x75_5).f0) ((rd_T32 t311 x75_5).f1) ((rd_T32 t311 x75_5).f2) ((rd_T32 t311 x75_5).f3)))) else (none)) else (none)) = some r := by first | (rw [hji44] at H; exact H) | (simp only [hji44] at H ⊢; exact H)
                            have hji44w : (IntKind.i64.wrap (x75_5 - 1)) = ji44 := (i64_w _).trans hji44
                            by_cases c45 : 0 ≤ (ji44)
                            rotate_left
                            ·
                             rw [if_neg c45] at H
                             exact absurd H (by simp)
                            rw [if_pos c45] at H
                            have c45b0 : decide (0 ≤ (ji44)) = true := decide_eq_true c45
                            clear c45
                            by_cases c46 : (ji44) < (t311.length : Int)
                            rotate_left
                            ·
                             rw [if_neg c46] at H
                             exact absurd H (by simp)
                            rw [if_pos c46] at H
                            have c46b0 : decide ((ji44) < (t311.length : Int)) = true := decide_eq_true c46
                            clear c46
                            by_cases c47 : ((rd_T32 t311 (ji44)).f0) > ((rd_T32 t311 x75_5).f0)
                            ·
                             rw [if_pos c47] at H
                             have c47b0 : decide (((rd_T32 t311 x75_5).f0) < ((rd_T32 t311 (ji44)).f0)) = true := decide_eq_true c47
                             clear c47
                             have H' := Aside0.mk H
                             clear H
                             have hcz48_0 : w38.cell? ⟨gb316, 0, none⟩ = some (.int .i64 0) := (blk_cell BK316.out 0).trans rfl
                             have hcz48_1 : w38.cell? ⟨gb316, 1, none⟩ = some (.int .i64 0) := (blk_cell BK316.out 1).trans rfl
                             have hcz48_2 : w38.cell? ⟨gb316, 2, none⟩ = some (.int .i64 0) := (blk_cell BK316.out 2).trans rfl
                             have hcz48_3 : w38.cell? ⟨gb316, 3, none⟩ = some (.int .i64 0) := (blk_cell BK316.out 3).trans rfl
                             have hfz48_0 := blk_frozen BK316.out 0
                             have hfz48_1 := blk_frozen BK316.out 1
                             have hfz48_2 := blk_frozen BK316.out 2
                             have hfz48_3 := blk_frozen BK316.out 3
                             have p317 : 0 ≤ ((ji44) : Int) := of_decide_eq_true (by first | (with_reducible assumption) | assumption)
                             have q317 : (ji44) < (t311.length : Int) := of_decide_eq_true (by first | (with_reducible assumption) | assumption)
                             obtain ⟨ad317, e317, hx317_0, hx317_1, hx317_2, hx317_3⟩ := at_T32 (Kd.R_reads' HO_10.out).2.2 (ji44) p317 q317
                             obtain rfl : ad315 = ad317 := (by injection e317)
                             have hn317_0 : ad315.block ≠ gb316 := Kd.own_blk (Kd.R_away HO_10.out (fun _ hk => hk.2))
                             have hn317_1 : ad315.block ≠ gb316 := Kd.own_blk (Kd.R_away HO_10.out (fun _ hk => hk.2))
                             have hn317_2 : ad315.block ≠ gb316 := Kd.own_blk (Kd.R_away HO_10.out (fun _ hk => hk.2))
                             have hn317_3 : ad315.block ≠ gb316 := Kd.own_blk (Kd.R_away HO_10.out (fun _ hk => hk.2))
                             replace hx317_0 := (cell_far (p := ⟨gb316, 0, none⟩) (by first | exact mootlaw4_BackTells.fa_ hn317_0 | exact hn317_0) (.int .i64 ((rd_T32 t311 x75_5).f0))).trans hx317_0
                             replace hx317_1 := (cell_far (p := ⟨gb316, 0, none⟩) (by first | exact mootlaw4_BackTells.fa_ hn317_0 | exact hn317_0) (.int .i64 ((rd_T32 t311 x75_5).f0))).trans hx317_1
                             replace hx317_2 := (cell_far (p := ⟨gb316, 0, none⟩) (by first | exact mootlaw4_BackTells.fa_ hn317_0 | exact hn317_0) (.int .i64 ((rd_T32 t311 x75_5).f0))).trans hx317_2
                             replace hx317_3 := (cell_far (p := ⟨gb316, 0, none⟩) (by first | exact mootlaw4_BackTells.fa_ hn317_0 | exact hn317_0) (.int .i64 ((rd_T32 t311 x75_5).f0))).trans hx317_3
                             replace hx317_0 := (cell_far (p := ⟨gb316, 1, none⟩) (by first | exact mootlaw4_BackTells.fa_ hn317_1 | exact hn317_1) (.int .i64 ((rd_T32 t311 x75_5).f1))).trans hx317_0
                             replace hx317_1 := (cell_far (p := ⟨gb316, 1, none⟩) (by first | exact mootlaw4_BackTells.fa_ hn317_1 | exact hn317_1) (.int .i64 ((rd_T32 t311 x75_5).f1))).trans hx317_1
                             replace hx317_2 := (cell_far (p := ⟨gb316, 1, none⟩) (by first | exact mootlaw4_BackTells.fa_ hn317_1 | exact hn317_1) (.int .i64 ((rd_T32 t311 x75_5).f1))).trans hx317_2
                             replace hx317_3 := (cell_far (p := ⟨gb316, 1, none⟩) (by first | exact mootlaw4_BackTells.fa_ hn317_1 | exact hn317_1) (.int .i64 ((rd_T32 t311 x75_5).f1))).trans hx317_3
                             replace hx317_0 := (cell_far (p := ⟨gb316, 2, none⟩) (by first | exact mootlaw4_BackTells.fa_ hn317_2 | exact hn317_2) (.int .i64 ((rd_T32 t311 x75_5).f2))).trans hx317_0
                             replace hx317_1 := (cell_far (p := ⟨gb316, 2, none⟩) (by first | exact mootlaw4_BackTells.fa_ hn317_2 | exact hn317_2) (.int .i64 ((rd_T32 t311 x75_5).f2))).trans hx317_1
                             replace hx317_2 := (cell_far (p := ⟨gb316, 2, none⟩) (by first | exact mootlaw4_BackTells.fa_ hn317_2 | exact hn317_2) (.int .i64 ((rd_T32 t311 x75_5).f2))).trans hx317_2
                             replace hx317_3 := (cell_far (p := ⟨gb316, 2, none⟩) (by first | exact mootlaw4_BackTells.fa_ hn317_2 | exact hn317_2) (.int .i64 ((rd_T32 t311 x75_5).f2))).trans hx317_3
                             replace hx317_0 := (cell_far (p := ⟨gb316, 3, none⟩) (by first | exact mootlaw4_BackTells.fa_ hn317_3 | exact hn317_3) (.int .i64 ((rd_T32 t311 x75_5).f3))).trans hx317_0
                             replace hx317_1 := (cell_far (p := ⟨gb316, 3, none⟩) (by first | exact mootlaw4_BackTells.fa_ hn317_3 | exact hn317_3) (.int .i64 ((rd_T32 t311 x75_5).f3))).trans hx317_1
                             replace hx317_2 := (cell_far (p := ⟨gb316, 3, none⟩) (by first | exact mootlaw4_BackTells.fa_ hn317_3 | exact hn317_3) (.int .i64 ((rd_T32 t311 x75_5).f3))).trans hx317_2
                             replace hx317_3 := (cell_far (p := ⟨gb316, 3, none⟩) (by first | exact mootlaw4_BackTells.fa_ hn317_3 | exact hn317_3) (.int .i64 ((rd_T32 t311 x75_5).f3))).trans hx317_3
                             (try have hy317_0 := fun (n_ : Nat) => (show ((((((w38.drewN n_).setCell ⟨gb316, 0, none⟩ (.int .i64 ((rd_T32 t311 x75_5).f0))).setCell ⟨gb316, 1, none⟩ (.int .i64 ((rd_T32 t311 x75_5).f1))).setCell ⟨gb316, 2, none⟩ (.int .i64 ((rd_T32 t311 x75_5).f2))).setCell ⟨gb316, 3, none⟩ (.int .i64 ((rd_T32 t311 x75_5).f3)))).cell? _ = some _ from hx317_0))
                             (try have hy317_1 := fun (n_ : Nat) => (show ((((((w38.drewN n_).setCell ⟨gb316, 0, none⟩ (.int .i64 ((rd_T32 t311 x75_5).f0))).setCell ⟨gb316, 1, none⟩ (.int .i64 ((rd_T32 t311 x75_5).f1))).setCell ⟨gb316, 2, none⟩ (.int .i64 ((rd_T32 t311 x75_5).f2))).setCell ⟨gb316, 3, none⟩ (.int .i64 ((rd_T32 t311 x75_5).f3)))).cell? _ = some _ from hx317_1))
                             (try have hy317_2 := fun (n_ : Nat) => (show ((((((w38.drewN n_).setCell ⟨gb316, 0, none⟩ (.int .i64 ((rd_T32 t311 x75_5).f0))).setCell ⟨gb316, 1, none⟩ (.int .i64 ((rd_T32 t311 x75_5).f1))).setCell ⟨gb316, 2, none⟩ (.int .i64 ((rd_T32 t311 x75_5).f2))).setCell ⟨gb316, 3, none⟩ (.int .i64 ((rd_T32 t311 x75_5).f3)))).cell? _ = some _ from hx317_2))
                             (try have hy317_3 := fun (n_ : Nat) => (show ((((((w38.drewN n_).setCell ⟨gb316, 0, none⟩ (.int .i64 ((rd_T32 t311 x75_5).f0))).setCell ⟨gb316, 1, none⟩ (.int .i64 ((rd_T32 t311 x75_5).f1))).setCell ⟨gb316, 2, none⟩ (.int .i64 ((rd_T32 t311 x75_5).f2))).setCell ⟨gb316, 3, none⟩ (.int .i64 ((rd_T32 t311 x75_5).f3)))).cell? _ = some _ from hx317_3))
                             clear hn317_0
                             clear hn317_1
                             clear hn317_2
                             clear hn317_3
                             replace p317 := eq_true p317
                             replace q317 := eq_true q317
                             go_wp2
                             repeat (go_quiet (fail); try go_wp2)
                             go_meet
                             case rel => exact ⟨_, (true), (by first | rfl | (simp; done) | (simp [*]; done)), H', ⟨by have := HJ7.out; have := HJ19.out; have := HJ23.out; have := HJ26.out; have := HK5.out; first | omega | exact Nat.le_refl _⟩, ⟨by (with_reducible repeat (first | apply Kd.R_alloc | apply Kd.R_drewN | apply Kd.R_drew)); exact Kd.R_mono (Kd.R_far (p := ⟨gb316, 3, none⟩) (Kd.R_far (p := ⟨gb316, 2, none⟩) (Kd.R_far (p := ⟨gb316, 1, none⟩) (Kd.R_far (p := ⟨gb316, 0, none⟩) (Kd.R_mono HO_10.out (fun k_ hk => (⟨hk, hk.2⟩ : _ ∧ k_ ≠ gb316))) (fun _ hk => hk.2) (.int .i64 ((rd_T32 t311 x75_5).f0))) (fun _ hk => hk.2) (.int .i64 ((rd_T32 t311 x75_5).f1))) (fun _ hk => hk.2) (.int .i64 ((rd_T32 t311 x75_5).f2))) (fun _ hk => hk.2) (.int .i64 ((rd_T32 t311 x75_5).f3))) (fun _ hk => hk.1.2)⟩, ⟨by (with_reducible repeat (first | apply Kd.R_alloc | apply Kd.R_drewN | apply Kd.R_drew)); exact Kd.R_mono (Kd.R_far (p := ⟨gb316, 3, none⟩) (Kd.R_far (p := ⟨gb316, 2, none⟩) (Kd.R_far (p := ⟨gb316, 1, none⟩) (Kd.R_far (p := ⟨gb316, 0, none⟩) (Kd.R_mono HO_73.out (fun k_ hk => (⟨hk, hk.2⟩ : _ ∧ k_ ≠ gb316))) (fun _ hk => hk.2) (.int .i64 ((rd_T32 t311 x75_5).f0))) (fun _ hk => hk.2) (.int .i64 ((rd_T32 t311 x75_5).f1))) (fun _ hk => hk.2) (.int .i64 ((rd_T32 t311 x75_5).f2))) (fun _ hk => hk.2) (.int .i64 ((rd_T32 t311 x75_5).f3))) (fun _ hk => hk.1.2)⟩, ⟨by (with_reducible repeat (first | refine blk_drewN ?_ _ | refine blk_drew ?_ | refine blk_alloc ?_ _)); refine blk_put (cs := #[.int .i64 ((rd_T32 t311 x75_5).f0), .int .i64 ((rd_T32 t311 x75_5).f1), .int .i64 ((rd_T32 t311 x75_5).f2), .int .i64 0]) ?_ 3 _ rfl; (with_reducible repeat (first | refine blk_drewN ?_ _ | refine blk_drew ?_ | refine blk_alloc ?_ _)); refine blk_put (cs := #[.int .i64 ((rd_T32 t311 x75_5).f0), .int .i64 ((rd_T32 t311 x75_5).f1), .int .i64 0, .int .i64 0]) ?_ 2 _ rfl; (with_reducible repeat (first | refine blk_drewN ?_ _ | refine blk_drew ?_ | refine blk_alloc ?_ _)); refine blk_put (cs := #[.int .i64 ((rd_T32 t311 x75_5).f0), .int .i64 0, .int .i64 0, .int .i64 0]) ?_ 1 _ rfl; (with_reducible repeat (first | refine blk_drewN ?_ _ | refine blk_drew ?_ | refine blk_alloc ?_ _)); refine blk_put (cs := #[.int .i64 0, .int .i64 0, .int .i64 0, .int .i64 0]) ?_ 0 _ rfl; (with_reducible repeat (first | refine blk_drewN ?_ _ | refine blk_drew ?_ | refine blk_alloc ?_ _)); exact BK316.out⟩, ⟨by repeat (first | (with_reducible first | exact HB.out | apply below_alloc | apply pw_below_drewN | apply below_drew1 | refine below_set ?_ GE316.out) | exact HB.out)⟩⟩
                            ·
                             as_aux_lemma =>
                              rw [if_neg c47] at H
                              have c47b0 : decide (((rd_T32 t311 x75_5).f0) < ((rd_T32 t311 (ji44)).f0)) = false := decide_eq_false c47
                              clear c47
                              by_cases c49 : ((rd_T32 t311 (ji44)).f0) = ((rd_T32 t311 x75_5).f0)
                              ·
                               rw [if_pos c49] at H
                               have c49b0 : (((rd_T32 t311 (ji44)).f0) == ((rd_T32 t311 x75_5).f0)) = true := beq_iff_eq.mpr c49
                               have c49b1 : (((rd_T32 t311 (ji44)).f0) != ((rd_T32 t311 x75_5).f0)) = false := bne_eq_false_iff_eq.mpr c49
                               clear c49
                               have H' := Aside0.mk H
                               clear H
                               have hcz50_0 : w38.cell? ⟨gb316, 0, none⟩ = some (.int .i64 0) := (blk_cell BK316.out 0).trans rfl
                               have hcz50_1 : w38.cell? ⟨gb316, 1, none⟩ = some (.int .i64 0) := (blk_cell BK316.out 1).trans rfl
                               have hcz50_2 : w38.cell? ⟨gb316, 2, none⟩ = some (.int .i64 0) := (blk_cell BK316.out 2).trans rfl
                               have hcz50_3 : w38.cell? ⟨gb316, 3, none⟩ = some (.int .i64 0) := (blk_cell BK316.out 3).trans rfl
                               have hfz50_0 := blk_frozen BK316.out 0
                               have hfz50_1 := blk_frozen BK316.out 1
                               have hfz50_2 := blk_frozen BK316.out 2
                               have hfz50_3 := blk_frozen BK316.out 3
                               have p317 : 0 ≤ ((ji44) : Int) := of_decide_eq_true (by first | (with_reducible assumption) | assumption)
                               have q317 : (ji44) < (t311.length : Int) := of_decide_eq_true (by first | (with_reducible assumption) | assumption)
                               obtain ⟨ad317, e317, hx317_0, hx317_1, hx317_2, hx317_3⟩ := at_T32 (Kd.R_reads' HO_10.out).2.2 (ji44) p317 q317
                               obtain rfl : ad315 = ad317 := (by injection e317)
                               have hn317_0 : ad315.block ≠ gb316 := Kd.own_blk (Kd.R_away HO_10.out (fun _ hk => hk.2))
                               have hn317_1 : ad315.block ≠ gb316 := Kd.own_blk (Kd.R_away HO_10.out (fun _ hk => hk.2))
                               have hn317_2 : ad315.block ≠ gb316 := Kd.own_blk (Kd.R_away HO_10.out (fun _ hk => hk.2))
                               have hn317_3 : ad315.block ≠ gb316 := Kd.own_blk (Kd.R_away HO_10.out (fun _ hk => hk.2))
                               replace hx317_0 := (cell_far (p := ⟨gb316, 0, none⟩) (by first | exact mootlaw4_BackTells.fa_ hn317_0 | exact hn317_0) (.int .i64 ((rd_T32 t311 x75_5).f0))).trans hx317_0
                               replace hx317_1 := (cell_far (p := ⟨gb316, 0, none⟩) (by first | exact mootlaw4_BackTells.fa_ hn317_0 | exact hn317_0) (.int .i64 ((rd_T32 t311 x75_5).f0))).trans hx317_1
                               replace hx317_2 := (cell_far (p := ⟨gb316, 0, none⟩) (by first | exact mootlaw4_BackTells.fa_ hn317_0 | exact hn317_0) (.int .i64 ((rd_T32 t311 x75_5).f0))).trans hx317_2
                               replace hx317_3 := (cell_far (p := ⟨gb316, 0, none⟩) (by first | exact mootlaw4_BackTells.fa_ hn317_0 | exact hn317_0) (.int .i64 ((rd_T32 t311 x75_5).f0))).trans hx317_3
                               replace hx317_0 := (cell_far (p := ⟨gb316, 1, none⟩) (by first | exact mootlaw4_BackTells.fa_ hn317_1 | exact hn317_1) (.int .i64 ((rd_T32 t311 x75_5).f1))).trans hx317_0
                               replace hx317_1 := (cell_far (p := ⟨gb316, 1, none⟩) (by first | exact mootlaw4_BackTells.fa_ hn317_1 | exact hn317_1) (.int .i64 ((rd_T32 t311 x75_5).f1))).trans hx317_1
                               replace hx317_2 := (cell_far (p := ⟨gb316, 1, none⟩) (by first | exact mootlaw4_BackTells.fa_ hn317_1 | exact hn317_1) (.int .i64 ((rd_T32 t311 x75_5).f1))).trans hx317_2
                               replace hx317_3 := (cell_far (p := ⟨gb316, 1, none⟩) (by first | exact mootlaw4_BackTells.fa_ hn317_1 | exact hn317_1) (.int .i64 ((rd_T32 t311 x75_5).f1))).trans hx317_3
                               replace hx317_0 := (cell_far (p := ⟨gb316, 2, none⟩) (by first | exact mootlaw4_BackTells.fa_ hn317_2 | exact hn317_2) (.int .i64 ((rd_T32 t311 x75_5).f2))).trans hx317_0
                               replace hx317_1 := (cell_far (p := ⟨gb316, 2, none⟩) (by first | exact mootlaw4_BackTells.fa_ hn317_2 | exact hn317_2) (.int .i64 ((rd_T32 t311 x75_5).f2))).trans hx317_1
                               replace hx317_2 := (cell_far (p := ⟨gb316, 2, none⟩) (by first | exact mootlaw4_BackTells.fa_ hn317_2 | exact hn317_2) (.int .i64 ((rd_T32 t311 x75_5).f2))).trans hx317_2
                               replace hx317_3 := (cell_far (p := ⟨gb316, 2, none⟩) (by first | exact mootlaw4_BackTells.fa_ hn317_2 | exact hn317_2) (.int .i64 ((rd_T32 t311 x75_5).f2))).trans hx317_3
                               replace hx317_0 := (cell_far (p := ⟨gb316, 3, none⟩) (by first | exact mootlaw4_BackTells.fa_ hn317_3 | exact hn317_3) (.int .i64 ((rd_T32 t311 x75_5).f3))).trans hx317_0
                               replace hx317_1 := (cell_far (p := ⟨gb316, 3, none⟩) (by first | exact mootlaw4_BackTells.fa_ hn317_3 | exact hn317_3) (.int .i64 ((rd_T32 t311 x75_5).f3))).trans hx317_1
                               replace hx317_2 := (cell_far (p := ⟨gb316, 3, none⟩) (by first | exact mootlaw4_BackTells.fa_ hn317_3 | exact hn317_3) (.int .i64 ((rd_T32 t311 x75_5).f3))).trans hx317_2
                               replace hx317_3 := (cell_far (p := ⟨gb316, 3, none⟩) (by first | exact mootlaw4_BackTells.fa_ hn317_3 | exact hn317_3) (.int .i64 ((rd_T32 t311 x75_5).f3))).trans hx317_3
                               (try have hy317_0 := fun (n_ : Nat) => (show ((((((w38.drewN n_).setCell ⟨gb316, 0, none⟩ (.int .i64 ((rd_T32 t311 x75_5).f0))).setCell ⟨gb316, 1, none⟩ (.int .i64 ((rd_T32 t311 x75_5).f1))).setCell ⟨gb316, 2, none⟩ (.int .i64 ((rd_T32 t311 x75_5).f2))).setCell ⟨gb316, 3, none⟩ (.int .i64 ((rd_T32 t311 x75_5).f3)))).cell? _ = some _ from hx317_0))
                               (try have hy317_1 := fun (n_ : Nat) => (show ((((((w38.drewN n_).setCell ⟨gb316, 0, none⟩ (.int .i64 ((rd_T32 t311 x75_5).f0))).setCell ⟨gb316, 1, none⟩ (.int .i64 ((rd_T32 t311 x75_5).f1))).setCell ⟨gb316, 2, none⟩ (.int .i64 ((rd_T32 t311 x75_5).f2))).setCell ⟨gb316, 3, none⟩ (.int .i64 ((rd_T32 t311 x75_5).f3)))).cell? _ = some _ from hx317_1))
                               (try have hy317_2 := fun (n_ : Nat) => (show ((((((w38.drewN n_).setCell ⟨gb316, 0, none⟩ (.int .i64 ((rd_T32 t311 x75_5).f0))).setCell ⟨gb316, 1, none⟩ (.int .i64 ((rd_T32 t311 x75_5).f1))).setCell ⟨gb316, 2, none⟩ (.int .i64 ((rd_T32 t311 x75_5).f2))).setCell ⟨gb316, 3, none⟩ (.int .i64 ((rd_T32 t311 x75_5).f3)))).cell? _ = some _ from hx317_2))
                               (try have hy317_3 := fun (n_ : Nat) => (show ((((((w38.drewN n_).setCell ⟨gb316, 0, none⟩ (.int .i64 ((rd_T32 t311 x75_5).f0))).setCell ⟨gb316, 1, none⟩ (.int .i64 ((rd_T32 t311 x75_5).f1))).setCell ⟨gb316, 2, none⟩ (.int .i64 ((rd_T32 t311 x75_5).f2))).setCell ⟨gb316, 3, none⟩ (.int .i64 ((rd_T32 t311 x75_5).f3)))).cell? _ = some _ from hx317_3))
                               clear hn317_0
                               clear hn317_1
                               clear hn317_2
                               clear hn317_3
                               replace p317 := eq_true p317
                               replace q317 := eq_true q317
                               have p318 : 0 ≤ ((ji44) : Int) := of_decide_eq_true (by first | (with_reducible assumption) | assumption)
                               have q318 : (ji44) < (t311.length : Int) := of_decide_eq_true (by first | (with_reducible assumption) | assumption)
                               obtain ⟨ad318, e318, hx318_0, hx318_1, hx318_2, hx318_3⟩ := at_T32 (Kd.R_reads' HO_10.out).2.2 (ji44) p318 q318
                               obtain rfl : ad315 = ad318 := (by injection e318)
                               have hn318_0 : ad315.block ≠ gb316 := Kd.own_blk (Kd.R_away HO_10.out (fun _ hk => hk.2))
                               have hn318_1 : ad315.block ≠ gb316 := Kd.own_blk (Kd.R_away HO_10.out (fun _ hk => hk.2))
                               have hn318_2 : ad315.block ≠ gb316 := Kd.own_blk (Kd.R_away HO_10.out (fun _ hk => hk.2))
                               have hn318_3 : ad315.block ≠ gb316 := Kd.own_blk (Kd.R_away HO_10.out (fun _ hk => hk.2))
                               replace hx318_0 := (cell_far (p := ⟨gb316, 0, none⟩) (by first | exact mootlaw4_BackTells.fa_ hn318_0 | exact hn318_0) (.int .i64 ((rd_T32 t311 x75_5).f0))).trans hx318_0
                               replace hx318_1 := (cell_far (p := ⟨gb316, 0, none⟩) (by first | exact mootlaw4_BackTells.fa_ hn318_0 | exact hn318_0) (.int .i64 ((rd_T32 t311 x75_5).f0))).trans hx318_1
                               replace hx318_2 := (cell_far (p := ⟨gb316, 0, none⟩) (by first | exact mootlaw4_BackTells.fa_ hn318_0 | exact hn318_0) (.int .i64 ((rd_T32 t311 x75_5).f0))).trans hx318_2
                               replace hx318_3 := (cell_far (p := ⟨gb316, 0, none⟩) (by first | exact mootlaw4_BackTells.fa_ hn318_0 | exact hn318_0) (.int .i64 ((rd_T32 t311 x75_5).f0))).trans hx318_3
                               replace hx318_0 := (cell_far (p := ⟨gb316, 1, none⟩) (by first | exact mootlaw4_BackTells.fa_ hn318_1 | exact hn318_1) (.int .i64 ((rd_T32 t311 x75_5).f1))).trans hx318_0
                               replace hx318_1 := (cell_far (p := ⟨gb316, 1, none⟩) (by first | exact mootlaw4_BackTells.fa_ hn318_1 | exact hn318_1) (.int .i64 ((rd_T32 t311 x75_5).f1))).trans hx318_1
                               replace hx318_2 := (cell_far (p := ⟨gb316, 1, none⟩) (by first | exact mootlaw4_BackTells.fa_ hn318_1 | exact hn318_1) (.int .i64 ((rd_T32 t311 x75_5).f1))).trans hx318_2
                               replace hx318_3 := (cell_far (p := ⟨gb316, 1, none⟩) (by first | exact mootlaw4_BackTells.fa_ hn318_1 | exact hn318_1) (.int .i64 ((rd_T32 t311 x75_5).f1))).trans hx318_3
                               replace hx318_0 := (cell_far (p := ⟨gb316, 2, none⟩) (by first | exact mootlaw4_BackTells.fa_ hn318_2 | exact hn318_2) (.int .i64 ((rd_T32 t311 x75_5).f2))).trans hx318_0
                               replace hx318_1 := (cell_far (p := ⟨gb316, 2, none⟩) (by first | exact mootlaw4_BackTells.fa_ hn318_2 | exact hn318_2) (.int .i64 ((rd_T32 t311 x75_5).f2))).trans hx318_1
                               replace hx318_2 := (cell_far (p := ⟨gb316, 2, none⟩) (by first | exact mootlaw4_BackTells.fa_ hn318_2 | exact hn318_2) (.int .i64 ((rd_T32 t311 x75_5).f2))).trans hx318_2
                               replace hx318_3 := (cell_far (p := ⟨gb316, 2, none⟩) (by first | exact mootlaw4_BackTells.fa_ hn318_2 | exact hn318_2) (.int .i64 ((rd_T32 t311 x75_5).f2))).trans hx318_3
                               replace hx318_0 := (cell_far (p := ⟨gb316, 3, none⟩) (by first | exact mootlaw4_BackTells.fa_ hn318_3 | exact hn318_3) (.int .i64 ((rd_T32 t311 x75_5).f3))).trans hx318_0
                               replace hx318_1 := (cell_far (p := ⟨gb316, 3, none⟩) (by first | exact mootlaw4_BackTells.fa_ hn318_3 | exact hn318_3) (.int .i64 ((rd_T32 t311 x75_5).f3))).trans hx318_1
                               replace hx318_2 := (cell_far (p := ⟨gb316, 3, none⟩) (by first | exact mootlaw4_BackTells.fa_ hn318_3 | exact hn318_3) (.int .i64 ((rd_T32 t311 x75_5).f3))).trans hx318_2
                               replace hx318_3 := (cell_far (p := ⟨gb316, 3, none⟩) (by first | exact mootlaw4_BackTells.fa_ hn318_3 | exact hn318_3) (.int .i64 ((rd_T32 t311 x75_5).f3))).trans hx318_3
                               (try have hy318_0 := fun (n_ : Nat) => (show ((((((w38.drewN n_).setCell ⟨gb316, 0, none⟩ (.int .i64 ((rd_T32 t311 x75_5).f0))).setCell ⟨gb316, 1, none⟩ (.int .i64 ((rd_T32 t311 x75_5).f1))).setCell ⟨gb316, 2, none⟩ (.int .i64 ((rd_T32 t311 x75_5).f2))).setCell ⟨gb316, 3, none⟩ (.int .i64 ((rd_T32 t311 x75_5).f3)))).cell? _ = some _ from hx318_0))
                               (try have hy318_1 := fun (n_ : Nat) => (show ((((((w38.drewN n_).setCell ⟨gb316, 0, none⟩ (.int .i64 ((rd_T32 t311 x75_5).f0))).setCell ⟨gb316, 1, none⟩ (.int .i64 ((rd_T32 t311 x75_5).f1))).setCell ⟨gb316, 2, none⟩ (.int .i64 ((rd_T32 t311 x75_5).f2))).setCell ⟨gb316, 3, none⟩ (.int .i64 ((rd_T32 t311 x75_5).f3)))).cell? _ = some _ from hx318_1))
                               (try have hy318_2 := fun (n_ : Nat) => (show ((((((w38.drewN n_).setCell ⟨gb316, 0, none⟩ (.int .i64 ((rd_T32 t311 x75_5).f0))).setCell ⟨gb316, 1, none⟩ (.int .i64 ((rd_T32 t311 x75_5).f1))).setCell ⟨gb316, 2, none⟩ (.int .i64 ((rd_T32 t311 x75_5).f2))).setCell ⟨gb316, 3, none⟩ (.int .i64 ((rd_T32 t311 x75_5).f3)))).cell? _ = some _ from hx318_2))
                               (try have hy318_3 := fun (n_ : Nat) => (show ((((((w38.drewN n_).setCell ⟨gb316, 0, none⟩ (.int .i64 ((rd_T32 t311 x75_5).f0))).setCell ⟨gb316, 1, none⟩ (.int .i64 ((rd_T32 t311 x75_5).f1))).setCell ⟨gb316, 2, none⟩ (.int .i64 ((rd_T32 t311 x75_5).f2))).setCell ⟨gb316, 3, none⟩ (.int .i64 ((rd_T32 t311 x75_5).f3)))).cell? _ = some _ from hx318_3))
                               clear hn318_0
                               clear hn318_1
                               clear hn318_2
                               clear hn318_3
                               replace p318 := eq_true p318
                               replace q318 := eq_true q318
                               have p319 : 0 ≤ ((ji44) : Int) := of_decide_eq_true (by first | (with_reducible assumption) | assumption)
                               have q319 : (ji44) < (t311.length : Int) := of_decide_eq_true (by first | (with_reducible assumption) | assumption)
                               obtain ⟨ad319, e319, hx319_0, hx319_1, hx319_2, hx319_3⟩ := at_T32 (Kd.R_reads' HO_10.out).2.2 (ji44) p319 q319
                               obtain rfl : ad315 = ad319 := (by injection e319)
                               have hn319_0 : ad315.block ≠ gb316 := Kd.own_blk (Kd.R_away HO_10.out (fun _ hk => hk.2))
                               have hn319_1 : ad315.block ≠ gb316 := Kd.own_blk (Kd.R_away HO_10.out (fun _ hk => hk.2))
                               have hn319_2 : ad315.block ≠ gb316 := Kd.own_blk (Kd.R_away HO_10.out (fun _ hk => hk.2))
                               have hn319_3 : ad315.block ≠ gb316 := Kd.own_blk (Kd.R_away HO_10.out (fun _ hk => hk.2))
                               replace hx319_0 := (cell_far (p := ⟨gb316, 0, none⟩) (by first | exact mootlaw4_BackTells.fa_ hn319_0 | exact hn319_0) (.int .i64 ((rd_T32 t311 x75_5).f0))).trans hx319_0
                               replace hx319_1 := (cell_far (p := ⟨gb316, 0, none⟩) (by first | exact mootlaw4_BackTells.fa_ hn319_0 | exact hn319_0) (.int .i64 ((rd_T32 t311 x75_5).f0))).trans hx319_1
                               replace hx319_2 := (cell_far (p := ⟨gb316, 0, none⟩) (by first | exact mootlaw4_BackTells.fa_ hn319_0 | exact hn319_0) (.int .i64 ((rd_T32 t311 x75_5).f0))).trans hx319_2
                               replace hx319_3 := (cell_far (p := ⟨gb316, 0, none⟩) (by first | exact mootlaw4_BackTells.fa_ hn319_0 | exact hn319_0) (.int .i64 ((rd_T32 t311 x75_5).f0))).trans hx319_3
                               replace hx319_0 := (cell_far (p := ⟨gb316, 1, none⟩) (by first | exact mootlaw4_BackTells.fa_ hn319_1 | exact hn319_1) (.int .i64 ((rd_T32 t311 x75_5).f1))).trans hx319_0
                               replace hx319_1 := (cell_far (p := ⟨gb316, 1, none⟩) (by first | exact mootlaw4_BackTells.fa_ hn319_1 | exact hn319_1) (.int .i64 ((rd_T32 t311 x75_5).f1))).trans hx319_1
                               replace hx319_2 := (cell_far (p := ⟨gb316, 1, none⟩) (by first | exact mootlaw4_BackTells.fa_ hn319_1 | exact hn319_1) (.int .i64 ((rd_T32 t311 x75_5).f1))).trans hx319_2
                               replace hx319_3 := (cell_far (p := ⟨gb316, 1, none⟩) (by first | exact mootlaw4_BackTells.fa_ hn319_1 | exact hn319_1) (.int .i64 ((rd_T32 t311 x75_5).f1))).trans hx319_3
                               replace hx319_0 := (cell_far (p := ⟨gb316, 2, none⟩) (by first | exact mootlaw4_BackTells.fa_ hn319_2 | exact hn319_2) (.int .i64 ((rd_T32 t311 x75_5).f2))).trans hx319_0
                               replace hx319_1 := (cell_far (p := ⟨gb316, 2, none⟩) (by first | exact mootlaw4_BackTells.fa_ hn319_2 | exact hn319_2) (.int .i64 ((rd_T32 t311 x75_5).f2))).trans hx319_1
                               replace hx319_2 := (cell_far (p := ⟨gb316, 2, none⟩) (by first | exact mootlaw4_BackTells.fa_ hn319_2 | exact hn319_2) (.int .i64 ((rd_T32 t311 x75_5).f2))).trans hx319_2
                               replace hx319_3 := (cell_far (p := ⟨gb316, 2, none⟩) (by first | exact mootlaw4_BackTells.fa_ hn319_2 | exact hn319_2) (.int .i64 ((rd_T32 t311 x75_5).f2))).trans hx319_3
                               replace hx319_0 := (cell_far (p := ⟨gb316, 3, none⟩) (by first | exact mootlaw4_BackTells.fa_ hn319_3 | exact hn319_3) (.int .i64 ((rd_T32 t311 x75_5).f3))).trans hx319_0
                               replace hx319_1 := (cell_far (p := ⟨gb316, 3, none⟩) (by first | exact mootlaw4_BackTells.fa_ hn319_3 | exact hn319_3) (.int .i64 ((rd_T32 t311 x75_5).f3))).trans hx319_1
                               replace hx319_2 := (cell_far (p := ⟨gb316, 3, none⟩) (by first | exact mootlaw4_BackTells.fa_ hn319_3 | exact hn319_3) (.int .i64 ((rd_T32 t311 x75_5).f3))).trans hx319_2
                               replace hx319_3 := (cell_far (p := ⟨gb316, 3, none⟩) (by first | exact mootlaw4_BackTells.fa_ hn319_3 | exact hn319_3) (.int .i64 ((rd_T32 t311 x75_5).f3))).trans hx319_3
                               (try have hy319_0 := fun (n_ : Nat) => (show ((((((w38.drewN n_).setCell ⟨gb316, 0, none⟩ (.int .i64 ((rd_T32 t311 x75_5).f0))).setCell ⟨gb316, 1, none⟩ (.int .i64 ((rd_T32 t311 x75_5).f1))).setCell ⟨gb316, 2, none⟩ (.int .i64 ((rd_T32 t311 x75_5).f2))).setCell ⟨gb316, 3, none⟩ (.int .i64 ((rd_T32 t311 x75_5).f3)))).cell? _ = some _ from hx319_0))
                               (try have hy319_1 := fun (n_ : Nat) => (show ((((((w38.drewN n_).setCell ⟨gb316, 0, none⟩ (.int .i64 ((rd_T32 t311 x75_5).f0))).setCell ⟨gb316, 1, none⟩ (.int .i64 ((rd_T32 t311 x75_5).f1))).setCell ⟨gb316, 2, none⟩ (.int .i64 ((rd_T32 t311 x75_5).f2))).setCell ⟨gb316, 3, none⟩ (.int .i64 ((rd_T32 t311 x75_5).f3)))).cell? _ = some _ from hx319_1))
                               (try have hy319_2 := fun (n_ : Nat) => (show ((((((w38.drewN n_).setCell ⟨gb316, 0, none⟩ (.int .i64 ((rd_T32 t311 x75_5).f0))).setCell ⟨gb316, 1, none⟩ (.int .i64 ((rd_T32 t311 x75_5).f1))).setCell ⟨gb316, 2, none⟩ (.int .i64 ((rd_T32 t311 x75_5).f2))).setCell ⟨gb316, 3, none⟩ (.int .i64 ((rd_T32 t311 x75_5).f3)))).cell? _ = some _ from hx319_2))
                               (try have hy319_3 := fun (n_ : Nat) => (show ((((((w38.drewN n_).setCell ⟨gb316, 0, none⟩ (.int .i64 ((rd_T32 t311 x75_5).f0))).setCell ⟨gb316, 1, none⟩ (.int .i64 ((rd_T32 t311 x75_5).f1))).setCell ⟨gb316, 2, none⟩ (.int .i64 ((rd_T32 t311 x75_5).f2))).setCell ⟨gb316, 3, none⟩ (.int .i64 ((rd_T32 t311 x75_5).f3)))).cell? _ = some _ from hx319_3))
                               clear hn319_0
                               clear hn319_1
                               clear hn319_2
                               clear hn319_3
                               replace p319 := eq_true p319
                               replace q319 := eq_true q319
                               go_wp2
                               repeat (go_quiet (fail); try go_wp2)
                               go_meet
                               case rel => exact ⟨_, (decide (((rd_T32 t311 (ji44)).f1) ≥ ((rd_T32 t311 x75_5).f1))), (by first | rfl | (simp; done) | (simp only [← hji44] <;> (first | rfl | simp)) | (simp [*]; done)), H', ⟨by have := HJ7.out; have := HJ19.out; have := HJ23.out; have := HJ26.out; have := HK5.out; first | omega | exact Nat.le_refl _⟩, ⟨by (with_reducible repeat (first | apply Kd.R_alloc | apply Kd.R_drewN | apply Kd.R_drew)); exact Kd.R_mono (Kd.R_far (p := ⟨gb316, 3, none⟩) (Kd.R_far (p := ⟨gb316, 2, none⟩) (Kd.R_far (p := ⟨gb316, 1, none⟩) (Kd.R_far (p := ⟨gb316, 0, none⟩) (Kd.R_mono HO_10.out (fun k_ hk => (⟨hk, hk.2⟩ : _ ∧ k_ ≠ gb316))) (fun _ hk => hk.2) (.int .i64 ((rd_T32 t311 x75_5).f0))) (fun _ hk => hk.2) (.int .i64 ((rd_T32 t311 x75_5).f1))) (fun _ hk => hk.2) (.int .i64 ((rd_T32 t311 x75_5).f2))) (fun _ hk => hk.2) (.int .i64 ((rd_T32 t311 x75_5).f3))) (fun _ hk => hk.1.2)⟩, ⟨by (with_reducible repeat (first | apply Kd.R_alloc | apply Kd.R_drewN | apply Kd.R_drew)); exact Kd.R_mono (Kd.R_far (p := ⟨gb316, 3, none⟩) (Kd.R_far (p := ⟨gb316, 2, none⟩) (Kd.R_far (p := ⟨gb316, 1, none⟩) (Kd.R_far (p := ⟨gb316, 0, none⟩) (Kd.R_mono HO_73.out (fun k_ hk => (⟨hk, hk.2⟩ : _ ∧ k_ ≠ gb316))) (fun _ hk => hk.2) (.int .i64 ((rd_T32 t311 x75_5).f0))) (fun _ hk => hk.2) (.int .i64 ((rd_T32 t311 x75_5).f1))) (fun _ hk => hk.2) (.int .i64 ((rd_T32 t311 x75_5).f2))) (fun _ hk => hk.2) (.int .i64 ((rd_T32 t311 x75_5).f3))) (fun _ hk => hk.1.2)⟩, ⟨by (with_reducible repeat (first | refine blk_drewN ?_ _ | refine blk_drew ?_ | refine blk_alloc ?_ _)); refine blk_put (cs := #[.int .i64 ((rd_T32 t311 x75_5).f0), .int .i64 ((rd_T32 t311 x75_5).f1), .int .i64 ((rd_T32 t311 x75_5).f2), .int .i64 0]) ?_ 3 _ rfl; (with_reducible repeat (first | refine blk_drewN ?_ _ | refine blk_drew ?_ | refine blk_alloc ?_ _)); refine blk_put (cs := #[.int .i64 ((rd_T32 t311 x75_5).f0), .int .i64 ((rd_T32 t311 x75_5).f1), .int .i64 0, .int .i64 0]) ?_ 2 _ rfl; (with_reducible repeat (first | refine blk_drewN ?_ _ | refine blk_drew ?_ | refine blk_alloc ?_ _)); refine blk_put (cs := #[.int .i64 ((rd_T32 t311 x75_5).f0), .int .i64 0, .int .i64 0, .int .i64 0]) ?_ 1 _ rfl; (with_reducible repeat (first | refine blk_drewN ?_ _ | refine blk_drew ?_ | refine blk_alloc ?_ _)); refine blk_put (cs := #[.int .i64 0, .int .i64 0, .int .i64 0, .int .i64 0]) ?_ 0 _ rfl; (with_reducible repeat (first | refine blk_drewN ?_ _ | refine blk_drew ?_ | refine blk_alloc ?_ _)); exact BK316.out⟩, ⟨by repeat (first | (with_reducible first | exact HB.out | apply below_alloc | apply pw_below_drewN | apply below_drew1 | refine below_set ?_ GE316.out) | exact HB.out)⟩⟩
                              ·
                               rw [if_neg c49] at H
                               have c49b0 : (((rd_T32 t311 (ji44)).f0) == ((rd_T32 t311 x75_5).f0)) = false := beq_eq_false_iff_ne.mpr c49
                               have c49b1 : (((rd_T32 t311 (ji44)).f0) != ((rd_T32 t311 x75_5).f0)) = true := bne_iff_ne.mpr c49
                               have H' := Aside0.mk H
                               clear H
                               have hcz51_0 : w38.cell? ⟨gb316, 0, none⟩ = some (.int .i64 0) := (blk_cell BK316.out 0).trans rfl
                               have hcz51_1 : w38.cell? ⟨gb316, 1, none⟩ = some (.int .i64 0) := (blk_cell BK316.out 1).trans rfl
                               have hcz51_2 : w38.cell? ⟨gb316, 2, none⟩ = some (.int .i64 0) := (blk_cell BK316.out 2).trans rfl
                               have hcz51_3 : w38.cell? ⟨gb316, 3, none⟩ = some (.int .i64 0) := (blk_cell BK316.out 3).trans rfl
                               have hfz51_0 := blk_frozen BK316.out 0
                               have hfz51_1 := blk_frozen BK316.out 1
                               have hfz51_2 := blk_frozen BK316.out 2
                               have hfz51_3 := blk_frozen BK316.out 3
                               have p317 : 0 ≤ ((ji44) : Int) := of_decide_eq_true (by first | (with_reducible assumption) | assumption)
                               have q317 : (ji44) < (t311.length : Int) := of_decide_eq_true (by first | (with_reducible assumption) | assumption)
                               obtain ⟨ad317, e317, hx317_0, hx317_1, hx317_2, hx317_3⟩ := at_T32 (Kd.R_reads' HO_10.out).2.2 (ji44) p317 q317
                               obtain rfl : ad315 = ad317 := (by injection e317)
                               have hn317_0 : ad315.block ≠ gb316 := Kd.own_blk (Kd.R_away HO_10.out (fun _ hk => hk.2))
                               have hn317_1 : ad315.block ≠ gb316 := Kd.own_blk (Kd.R_away HO_10.out (fun _ hk => hk.2))
                               have hn317_2 : ad315.block ≠ gb316 := Kd.own_blk (Kd.R_away HO_10.out (fun _ hk => hk.2))
                               have hn317_3 : ad315.block ≠ gb316 := Kd.own_blk (Kd.R_away HO_10.out (fun _ hk => hk.2))
                               replace hx317_0 := (cell_far (p := ⟨gb316, 0, none⟩) (by first | exact mootlaw4_BackTells.fa_ hn317_0 | exact hn317_0) (.int .i64 ((rd_T32 t311 x75_5).f0))).trans hx317_0
                               replace hx317_1 := (cell_far (p := ⟨gb316, 0, none⟩) (by first | exact mootlaw4_BackTells.fa_ hn317_0 | exact hn317_0) (.int .i64 ((rd_T32 t311 x75_5).f0))).trans hx317_1
                               replace hx317_2 := (cell_far (p := ⟨gb316, 0, none⟩) (by first | exact mootlaw4_BackTells.fa_ hn317_0 | exact hn317_0) (.int .i64 ((rd_T32 t311 x75_5).f0))).trans hx317_2
                               replace hx317_3 := (cell_far (p := ⟨gb316, 0, none⟩) (by first | exact mootlaw4_BackTells.fa_ hn317_0 | exact hn317_0) (.int .i64 ((rd_T32 t311 x75_5).f0))).trans hx317_3
                               replace hx317_0 := (cell_far (p := ⟨gb316, 1, none⟩) (by first | exact mootlaw4_BackTells.fa_ hn317_1 | exact hn317_1) (.int .i64 ((rd_T32 t311 x75_5).f1))).trans hx317_0
                               replace hx317_1 := (cell_far (p := ⟨gb316, 1, none⟩) (by first | exact mootlaw4_BackTells.fa_ hn317_1 | exact hn317_1) (.int .i64 ((rd_T32 t311 x75_5).f1))).trans hx317_1
                               replace hx317_2 := (cell_far (p := ⟨gb316, 1, none⟩) (by first | exact mootlaw4_BackTells.fa_ hn317_1 | exact hn317_1) (.int .i64 ((rd_T32 t311 x75_5).f1))).trans hx317_2
                               replace hx317_3 := (cell_far (p := ⟨gb316, 1, none⟩) (by first | exact mootlaw4_BackTells.fa_ hn317_1 | exact hn317_1) (.int .i64 ((rd_T32 t311 x75_5).f1))).trans hx317_3
                               replace hx317_0 := (cell_far (p := ⟨gb316, 2, none⟩) (by first | exact mootlaw4_BackTells.fa_ hn317_2 | exact hn317_2) (.int .i64 ((rd_T32 t311 x75_5).f2))).trans hx317_0
                               replace hx317_1 := (cell_far (p := ⟨gb316, 2, none⟩) (by first | exact mootlaw4_BackTells.fa_ hn317_2 | exact hn317_2) (.int .i64 ((rd_T32 t311 x75_5).f2))).trans hx317_1
                               replace hx317_2 := (cell_far (p := ⟨gb316, 2, none⟩) (by first | exact mootlaw4_BackTells.fa_ hn317_2 | exact hn317_2) (.int .i64 ((rd_T32 t311 x75_5).f2))).trans hx317_2
                               replace hx317_3 := (cell_far (p := ⟨gb316, 2, none⟩) (by first | exact mootlaw4_BackTells.fa_ hn317_2 | exact hn317_2) (.int .i64 ((rd_T32 t311 x75_5).f2))).trans hx317_3
                               replace hx317_0 := (cell_far (p := ⟨gb316, 3, none⟩) (by first | exact mootlaw4_BackTells.fa_ hn317_3 | exact hn317_3) (.int .i64 ((rd_T32 t311 x75_5).f3))).trans hx317_0
                               replace hx317_1 := (cell_far (p := ⟨gb316, 3, none⟩) (by first | exact mootlaw4_BackTells.fa_ hn317_3 | exact hn317_3) (.int .i64 ((rd_T32 t311 x75_5).f3))).trans hx317_1
                               replace hx317_2 := (cell_far (p := ⟨gb316, 3, none⟩) (by first | exact mootlaw4_BackTells.fa_ hn317_3 | exact hn317_3) (.int .i64 ((rd_T32 t311 x75_5).f3))).trans hx317_2
                               replace hx317_3 := (cell_far (p := ⟨gb316, 3, none⟩) (by first | exact mootlaw4_BackTells.fa_ hn317_3 | exact hn317_3) (.int .i64 ((rd_T32 t311 x75_5).f3))).trans hx317_3
                               (try have hy317_0 := fun (n_ : Nat) => (show ((((((w38.drewN n_).setCell ⟨gb316, 0, none⟩ (.int .i64 ((rd_T32 t311 x75_5).f0))).setCell ⟨gb316, 1, none⟩ (.int .i64 ((rd_T32 t311 x75_5).f1))).setCell ⟨gb316, 2, none⟩ (.int .i64 ((rd_T32 t311 x75_5).f2))).setCell ⟨gb316, 3, none⟩ (.int .i64 ((rd_T32 t311 x75_5).f3)))).cell? _ = some _ from hx317_0))
                               (try have hy317_1 := fun (n_ : Nat) => (show ((((((w38.drewN n_).setCell ⟨gb316, 0, none⟩ (.int .i64 ((rd_T32 t311 x75_5).f0))).setCell ⟨gb316, 1, none⟩ (.int .i64 ((rd_T32 t311 x75_5).f1))).setCell ⟨gb316, 2, none⟩ (.int .i64 ((rd_T32 t311 x75_5).f2))).setCell ⟨gb316, 3, none⟩ (.int .i64 ((rd_T32 t311 x75_5).f3)))).cell? _ = some _ from hx317_1))
                               (try have hy317_2 := fun (n_ : Nat) => (show ((((((w38.drewN n_).setCell ⟨gb316, 0, none⟩ (.int .i64 ((rd_T32 t311 x75_5).f0))).setCell ⟨gb316, 1, none⟩ (.int .i64 ((rd_T32 t311 x75_5).f1))).setCell ⟨gb316, 2, none⟩ (.int .i64 ((rd_T32 t311 x75_5).f2))).setCell ⟨gb316, 3, none⟩ (.int .i64 ((rd_T32 t311 x75_5).f3)))).cell? _ = some _ from hx317_2))
                               (try have hy317_3 := fun (n_ : Nat) => (show ((((((w38.drewN n_).setCell ⟨gb316, 0, none⟩ (.int .i64 ((rd_T32 t311 x75_5).f0))).setCell ⟨gb316, 1, none⟩ (.int .i64 ((rd_T32 t311 x75_5).f1))).setCell ⟨gb316, 2, none⟩ (.int .i64 ((rd_T32 t311 x75_5).f2))).setCell ⟨gb316, 3, none⟩ (.int .i64 ((rd_T32 t311 x75_5).f3)))).cell? _ = some _ from hx317_3))
                               clear hn317_0
                               clear hn317_1
                               clear hn317_2
                               clear hn317_3
                               replace p317 := eq_true p317
                               replace q317 := eq_true q317
                               have p318 : 0 ≤ ((ji44) : Int) := of_decide_eq_true (by first | (with_reducible assumption) | assumption)
                               have q318 : (ji44) < (t311.length : Int) := of_decide_eq_true (by first | (with_reducible assumption) | assumption)
                               obtain ⟨ad318, e318, hx318_0, hx318_1, hx318_2, hx318_3⟩ := at_T32 (Kd.R_reads' HO_10.out).2.2 (ji44) p318 q318
                               obtain rfl : ad315 = ad318 := (by injection e318)
                               have hn318_0 : ad315.block ≠ gb316 := Kd.own_blk (Kd.R_away HO_10.out (fun _ hk => hk.2))
                               have hn318_1 : ad315.block ≠ gb316 := Kd.own_blk (Kd.R_away HO_10.out (fun _ hk => hk.2))
                               have hn318_2 : ad315.block ≠ gb316 := Kd.own_blk (Kd.R_away HO_10.out (fun _ hk => hk.2))
                               have hn318_3 : ad315.block ≠ gb316 := Kd.own_blk (Kd.R_away HO_10.out (fun _ hk => hk.2))
                               replace hx318_0 := (cell_far (p := ⟨gb316, 0, none⟩) (by first | exact mootlaw4_BackTells.fa_ hn318_0 | exact hn318_0) (.int .i64 ((rd_T32 t311 x75_5).f0))).trans hx318_0
                               replace hx318_1 := (cell_far (p := ⟨gb316, 0, none⟩) (by first | exact mootlaw4_BackTells.fa_ hn318_0 | exact hn318_0) (.int .i64 ((rd_T32 t311 x75_5).f0))).trans hx318_1
                               replace hx318_2 := (cell_far (p := ⟨gb316, 0, none⟩) (by first | exact mootlaw4_BackTells.fa_ hn318_0 | exact hn318_0) (.int .i64 ((rd_T32 t311 x75_5).f0))).trans hx318_2
                               replace hx318_3 := (cell_far (p := ⟨gb316, 0, none⟩) (by first | exact mootlaw4_BackTells.fa_ hn318_0 | exact hn318_0) (.int .i64 ((rd_T32 t311 x75_5).f0))).trans hx318_3
                               replace hx318_0 := (cell_far (p := ⟨gb316, 1, none⟩) (by first | exact mootlaw4_BackTells.fa_ hn318_1 | exact hn318_1) (.int .i64 ((rd_T32 t311 x75_5).f1))).trans hx318_0
                               replace hx318_1 := (cell_far (p := ⟨gb316, 1, none⟩) (by first | exact mootlaw4_BackTells.fa_ hn318_1 | exact hn318_1) (.int .i64 ((rd_T32 t311 x75_5).f1))).trans hx318_1
                               replace hx318_2 := (cell_far (p := ⟨gb316, 1, none⟩) (by first | exact mootlaw4_BackTells.fa_ hn318_1 | exact hn318_1) (.int .i64 ((rd_T32 t311 x75_5).f1))).trans hx318_2
                               replace hx318_3 := (cell_far (p := ⟨gb316, 1, none⟩) (by first | exact mootlaw4_BackTells.fa_ hn318_1 | exact hn318_1) (.int .i64 ((rd_T32 t311 x75_5).f1))).trans hx318_3
                               replace hx318_0 := (cell_far (p := ⟨gb316, 2, none⟩) (by first | exact mootlaw4_BackTells.fa_ hn318_2 | exact hn318_2) (.int .i64 ((rd_T32 t311 x75_5).f2))).trans hx318_0
                               replace hx318_1 := (cell_far (p := ⟨gb316, 2, none⟩) (by first | exact mootlaw4_BackTells.fa_ hn318_2 | exact hn318_2) (.int .i64 ((rd_T32 t311 x75_5).f2))).trans hx318_1
                               replace hx318_2 := (cell_far (p := ⟨gb316, 2, none⟩) (by first | exact mootlaw4_BackTells.fa_ hn318_2 | exact hn318_2) (.int .i64 ((rd_T32 t311 x75_5).f2))).trans hx318_2
                               replace hx318_3 := (cell_far (p := ⟨gb316, 2, none⟩) (by first | exact mootlaw4_BackTells.fa_ hn318_2 | exact hn318_2) (.int .i64 ((rd_T32 t311 x75_5).f2))).trans hx318_3
                               replace hx318_0 := (cell_far (p := ⟨gb316, 3, none⟩) (by first | exact mootlaw4_BackTells.fa_ hn318_3 | exact hn318_3) (.int .i64 ((rd_T32 t311 x75_5).f3))).trans hx318_0
                               replace hx318_1 := (cell_far (p := ⟨gb316, 3, none⟩) (by first | exact mootlaw4_BackTells.fa_ hn318_3 | exact hn318_3) (.int .i64 ((rd_T32 t311 x75_5).f3))).trans hx318_1
                               replace hx318_2 := (cell_far (p := ⟨gb316, 3, none⟩) (by first | exact mootlaw4_BackTells.fa_ hn318_3 | exact hn318_3) (.int .i64 ((rd_T32 t311 x75_5).f3))).trans hx318_2
                               replace hx318_3 := (cell_far (p := ⟨gb316, 3, none⟩) (by first | exact mootlaw4_BackTells.fa_ hn318_3 | exact hn318_3) (.int .i64 ((rd_T32 t311 x75_5).f3))).trans hx318_3
                               (try have hy318_0 := fun (n_ : Nat) => (show ((((((w38.drewN n_).setCell ⟨gb316, 0, none⟩ (.int .i64 ((rd_T32 t311 x75_5).f0))).setCell ⟨gb316, 1, none⟩ (.int .i64 ((rd_T32 t311 x75_5).f1))).setCell ⟨gb316, 2, none⟩ (.int .i64 ((rd_T32 t311 x75_5).f2))).setCell ⟨gb316, 3, none⟩ (.int .i64 ((rd_T32 t311 x75_5).f3)))).cell? _ = some _ from hx318_0))
                               (try have hy318_1 := fun (n_ : Nat) => (show ((((((w38.drewN n_).setCell ⟨gb316, 0, none⟩ (.int .i64 ((rd_T32 t311 x75_5).f0))).setCell ⟨gb316, 1, none⟩ (.int .i64 ((rd_T32 t311 x75_5).f1))).setCell ⟨gb316, 2, none⟩ (.int .i64 ((rd_T32 t311 x75_5).f2))).setCell ⟨gb316, 3, none⟩ (.int .i64 ((rd_T32 t311 x75_5).f3)))).cell? _ = some _ from hx318_1))
                               (try have hy318_2 := fun (n_ : Nat) => (show ((((((w38.drewN n_).setCell ⟨gb316, 0, none⟩ (.int .i64 ((rd_T32 t311 x75_5).f0))).setCell ⟨gb316, 1, none⟩ (.int .i64 ((rd_T32 t311 x75_5).f1))).setCell ⟨gb316, 2, none⟩ (.int .i64 ((rd_T32 t311 x75_5).f2))).setCell ⟨gb316, 3, none⟩ (.int .i64 ((rd_T32 t311 x75_5).f3)))).cell? _ = some _ from hx318_2))
                               (try have hy318_3 := fun (n_ : Nat) => (show ((((((w38.drewN n_).setCell ⟨gb316, 0, none⟩ (.int .i64 ((rd_T32 t311 x75_5).f0))).setCell ⟨gb316, 1, none⟩ (.int .i64 ((rd_T32 t311 x75_5).f1))).setCell ⟨gb316, 2, none⟩ (.int .i64 ((rd_T32 t311 x75_5).f2))).setCell ⟨gb316, 3, none⟩ (.int .i64 ((rd_T32 t311 x75_5).f3)))).cell? _ = some _ from hx318_3))
                               clear hn318_0
                               clear hn318_1
                               clear hn318_2
                               clear hn318_3
                               replace p318 := eq_true p318
                               replace q318 := eq_true q318
                               go_wp2
                               repeat (go_quiet (fail); try go_wp2)
                               go_meet
                               case rel => exact ⟨_, (false), (by first | rfl | (simp; done) | (simp [*]; done)), H', ⟨by have := HJ7.out; have := HJ19.out; have := HJ23.out; have := HJ26.out; have := HK5.out; first | omega | exact Nat.le_refl _⟩, ⟨by (with_reducible repeat (first | apply Kd.R_alloc | apply Kd.R_drewN | apply Kd.R_drew)); exact Kd.R_mono (Kd.R_far (p := ⟨gb316, 3, none⟩) (Kd.R_far (p := ⟨gb316, 2, none⟩) (Kd.R_far (p := ⟨gb316, 1, none⟩) (Kd.R_far (p := ⟨gb316, 0, none⟩) (Kd.R_mono HO_10.out (fun k_ hk => (⟨hk, hk.2⟩ : _ ∧ k_ ≠ gb316))) (fun _ hk => hk.2) (.int .i64 ((rd_T32 t311 x75_5).f0))) (fun _ hk => hk.2) (.int .i64 ((rd_T32 t311 x75_5).f1))) (fun _ hk => hk.2) (.int .i64 ((rd_T32 t311 x75_5).f2))) (fun _ hk => hk.2) (.int .i64 ((rd_T32 t311 x75_5).f3))) (fun _ hk => hk.1.2)⟩, ⟨by (with_reducible repeat (first | apply Kd.R_alloc | apply Kd.R_drewN | apply Kd.R_drew)); exact Kd.R_mono (Kd.R_far (p := ⟨gb316, 3, none⟩) (Kd.R_far (p := ⟨gb316, 2, none⟩) (Kd.R_far (p := ⟨gb316, 1, none⟩) (Kd.R_far (p := ⟨gb316, 0, none⟩) (Kd.R_mono HO_73.out (fun k_ hk => (⟨hk, hk.2⟩ : _ ∧ k_ ≠ gb316))) (fun _ hk => hk.2) (.int .i64 ((rd_T32 t311 x75_5).f0))) (fun _ hk => hk.2) (.int .i64 ((rd_T32 t311 x75_5).f1))) (fun _ hk => hk.2) (.int .i64 ((rd_T32 t311 x75_5).f2))) (fun _ hk => hk.2) (.int .i64 ((rd_T32 t311 x75_5).f3))) (fun _ hk => hk.1.2)⟩, ⟨by (with_reducible repeat (first | refine blk_drewN ?_ _ | refine blk_drew ?_ | refine blk_alloc ?_ _)); refine blk_put (cs := #[.int .i64 ((rd_T32 t311 x75_5).f0), .int .i64 ((rd_T32 t311 x75_5).f1), .int .i64 ((rd_T32 t311 x75_5).f2), .int .i64 0]) ?_ 3 _ rfl; (with_reducible repeat (first | refine blk_drewN ?_ _ | refine blk_drew ?_ | refine blk_alloc ?_ _)); refine blk_put (cs := #[.int .i64 ((rd_T32 t311 x75_5).f0), .int .i64 ((rd_T32 t311 x75_5).f1), .int .i64 0, .int .i64 0]) ?_ 2 _ rfl; (with_reducible repeat (first | refine blk_drewN ?_ _ | refine blk_drew ?_ | refine blk_alloc ?_ _)); refine blk_put (cs := #[.int .i64 ((rd_T32 t311 x75_5).f0), .int .i64 0, .int .i64 0, .int .i64 0]) ?_ 1 _ rfl; (with_reducible repeat (first | refine blk_drewN ?_ _ | refine blk_drew ?_ | refine blk_alloc ?_ _)); refine blk_put (cs := #[.int .i64 0, .int .i64 0, .int .i64 0, .int .i64 0]) ?_ 0 _ rfl; (with_reducible repeat (first | refine blk_drewN ?_ _ | refine blk_drew ?_ | refine blk_alloc ?_ _)); exact BK316.out⟩, ⟨by repeat (first | (with_reducible first | exact HB.out | apply below_alloc | apply pw_below_drewN | apply below_drew1 | refine below_set ?_ GE316.out) | exact HB.out)⟩⟩
                          ·
                           rw [if_neg c43] at H
                           have c43b0 : decide (0 < x75_5) = false := decide_eq_false c43
                           clear c43
                           have H' := Aside0.mk H
                           clear H
                           have hcz52_0 : w38.cell? ⟨gb316, 0, none⟩ = some (.int .i64 0) := (blk_cell BK316.out 0).trans rfl
                           have hcz52_1 : w38.cell? ⟨gb316, 1, none⟩ = some (.int .i64 0) := (blk_cell BK316.out 1).trans rfl
                           have hcz52_2 : w38.cell? ⟨gb316, 2, none⟩ = some (.int .i64 0) := (blk_cell BK316.out 2).trans rfl
                           have hcz52_3 : w38.cell? ⟨gb316, 3, none⟩ = some (.int .i64 0) := (blk_cell BK316.out 3).trans rfl
                           have hfz52_0 := blk_frozen BK316.out 0
                           have hfz52_1 := blk_frozen BK316.out 1
                           have hfz52_2 := blk_frozen BK316.out 2
                           have hfz52_3 := blk_frozen BK316.out 3
                           go_wp2
                           repeat (go_quiet (fail); try go_wp2)
                           go_meet
                           case rel => exact ⟨_, (false), (by first | rfl | (simp; done) | (simp [*]; done)), H', ⟨by have := HJ7.out; have := HJ19.out; have := HJ23.out; have := HJ26.out; have := HK5.out; first | omega | exact Nat.le_refl _⟩, ⟨by (with_reducible repeat (first | apply Kd.R_alloc | apply Kd.R_drewN | apply Kd.R_drew)); exact Kd.R_mono (Kd.R_far (p := ⟨gb316, 3, none⟩) (Kd.R_far (p := ⟨gb316, 2, none⟩) (Kd.R_far (p := ⟨gb316, 1, none⟩) (Kd.R_far (p := ⟨gb316, 0, none⟩) (Kd.R_mono HO_10.out (fun k_ hk => (⟨hk, hk.2⟩ : _ ∧ k_ ≠ gb316))) (fun _ hk => hk.2) (.int .i64 ((rd_T32 t311 x75_5).f0))) (fun _ hk => hk.2) (.int .i64 ((rd_T32 t311 x75_5).f1))) (fun _ hk => hk.2) (.int .i64 ((rd_T32 t311 x75_5).f2))) (fun _ hk => hk.2) (.int .i64 ((rd_T32 t311 x75_5).f3))) (fun _ hk => hk.1.2)⟩, ⟨by (with_reducible repeat (first | apply Kd.R_alloc | apply Kd.R_drewN | apply Kd.R_drew)); exact Kd.R_mono (Kd.R_far (p := ⟨gb316, 3, none⟩) (Kd.R_far (p := ⟨gb316, 2, none⟩) (Kd.R_far (p := ⟨gb316, 1, none⟩) (Kd.R_far (p := ⟨gb316, 0, none⟩) (Kd.R_mono HO_73.out (fun k_ hk => (⟨hk, hk.2⟩ : _ ∧ k_ ≠ gb316))) (fun _ hk => hk.2) (.int .i64 ((rd_T32 t311 x75_5).f0))) (fun _ hk => hk.2) (.int .i64 ((rd_T32 t311 x75_5).f1))) (fun _ hk => hk.2) (.int .i64 ((rd_T32 t311 x75_5).f2))) (fun _ hk => hk.2) (.int .i64 ((rd_T32 t311 x75_5).f3))) (fun _ hk => hk.1.2)⟩, ⟨by (with_reducible repeat (first | refine blk_drewN ?_ _ | refine blk_drew ?_ | refine blk_alloc ?_ _)); refine blk_put (cs := #[.int .i64 ((rd_T32 t311 x75_5).f0), .int .i64 ((rd_T32 t311 x75_5).f1), .int .i64 ((rd_T32 t311 x75_5).f2), .int .i64 0]) ?_ 3 _ rfl; (with_reducible repeat (first | refine blk_drewN ?_ _ | refine blk_drew ?_ | refine blk_alloc ?_ _)); refine blk_put (cs := #[.int .i64 ((rd_T32 t311 x75_5).f0), .int .i64 ((rd_T32 t311 x75_5).f1), .int .i64 0, .int .i64 0]) ?_ 2 _ rfl; (with_reducible repeat (first | refine blk_drewN ?_ _ | refine blk_drew ?_ | refine blk_alloc ?_ _)); refine blk_put (cs := #[.int .i64 ((rd_T32 t311 x75_5).f0), .int .i64 0, .int .i64 0, .int .i64 0]) ?_ 1 _ rfl; (with_reducible repeat (first | refine blk_drewN ?_ _ | refine blk_drew ?_ | refine blk_alloc ?_ _)); refine blk_put (cs := #[.int .i64 0, .int .i64 0, .int .i64 0, .int .i64 0]) ?_ 0 _ rfl; (with_reducible repeat (first | refine blk_drewN ?_ _ | refine blk_drew ?_ | refine blk_alloc ?_ _)); exact BK316.out⟩, ⟨by repeat (first | (with_reducible first | exact HB.out | apply below_alloc | apply pw_below_drewN | apply below_drew1 | refine below_set ?_ GE316.out) | exact HB.out)⟩⟩
                        ·
                         rw [if_neg c42] at H
                         have c42b0 : (((rd_T32 t311 x75_5).f3) == a2) = false := beq_eq_false_iff_ne.mpr c42
                         have c42b1 : (((rd_T32 t311 x75_5).f3) != a2) = true := bne_iff_ne.mpr c42
                         have H' := Aside0.mk H
                         clear H
                         have hcz53_0 : w38.cell? ⟨gb316, 0, none⟩ = some (.int .i64 0) := (blk_cell BK316.out 0).trans rfl
                         have hcz53_1 : w38.cell? ⟨gb316, 1, none⟩ = some (.int .i64 0) := (blk_cell BK316.out 1).trans rfl
                         have hcz53_2 : w38.cell? ⟨gb316, 2, none⟩ = some (.int .i64 0) := (blk_cell BK316.out 2).trans rfl
                         have hcz53_3 : w38.cell? ⟨gb316, 3, none⟩ = some (.int .i64 0) := (blk_cell BK316.out 3).trans rfl
                         have hfz53_0 := blk_frozen BK316.out 0
                         have hfz53_1 := blk_frozen BK316.out 1
                         have hfz53_2 := blk_frozen BK316.out 2
                         have hfz53_3 := blk_frozen BK316.out 3
                         go_wp2
                         repeat (go_quiet (fail); try go_wp2)
                         go_meet
                         case rel => exact ⟨_, (true), (by first | rfl | (simp; done) | (simp [*]; done)), H', ⟨by have := HJ7.out; have := HJ19.out; have := HJ23.out; have := HJ26.out; have := HK5.out; first | omega | exact Nat.le_refl _⟩, ⟨by (with_reducible repeat (first | apply Kd.R_alloc | apply Kd.R_drewN | apply Kd.R_drew)); exact Kd.R_mono (Kd.R_far (p := ⟨gb316, 3, none⟩) (Kd.R_far (p := ⟨gb316, 2, none⟩) (Kd.R_far (p := ⟨gb316, 1, none⟩) (Kd.R_far (p := ⟨gb316, 0, none⟩) (Kd.R_mono HO_10.out (fun k_ hk => (⟨hk, hk.2⟩ : _ ∧ k_ ≠ gb316))) (fun _ hk => hk.2) (.int .i64 ((rd_T32 t311 x75_5).f0))) (fun _ hk => hk.2) (.int .i64 ((rd_T32 t311 x75_5).f1))) (fun _ hk => hk.2) (.int .i64 ((rd_T32 t311 x75_5).f2))) (fun _ hk => hk.2) (.int .i64 ((rd_T32 t311 x75_5).f3))) (fun _ hk => hk.1.2)⟩, ⟨by (with_reducible repeat (first | apply Kd.R_alloc | apply Kd.R_drewN | apply Kd.R_drew)); exact Kd.R_mono (Kd.R_far (p := ⟨gb316, 3, none⟩) (Kd.R_far (p := ⟨gb316, 2, none⟩) (Kd.R_far (p := ⟨gb316, 1, none⟩) (Kd.R_far (p := ⟨gb316, 0, none⟩) (Kd.R_mono HO_73.out (fun k_ hk => (⟨hk, hk.2⟩ : _ ∧ k_ ≠ gb316))) (fun _ hk => hk.2) (.int .i64 ((rd_T32 t311 x75_5).f0))) (fun _ hk => hk.2) (.int .i64 ((rd_T32 t311 x75_5).f1))) (fun _ hk => hk.2) (.int .i64 ((rd_T32 t311 x75_5).f2))) (fun _ hk => hk.2) (.int .i64 ((rd_T32 t311 x75_5).f3))) (fun _ hk => hk.1.2)⟩, ⟨by (with_reducible repeat (first | refine blk_drewN ?_ _ | refine blk_drew ?_ | refine blk_alloc ?_ _)); refine blk_put (cs := #[.int .i64 ((rd_T32 t311 x75_5).f0), .int .i64 ((rd_T32 t311 x75_5).f1), .int .i64 ((rd_T32 t311 x75_5).f2), .int .i64 0]) ?_ 3 _ rfl; (with_reducible repeat (first | refine blk_drewN ?_ _ | refine blk_drew ?_ | refine blk_alloc ?_ _)); refine blk_put (cs := #[.int .i64 ((rd_T32 t311 x75_5).f0), .int .i64 ((rd_T32 t311 x75_5).f1), .int .i64 0, .int .i64 0]) ?_ 2 _ rfl; (with_reducible repeat (first | refine blk_drewN ?_ _ | refine blk_drew ?_ | refine blk_alloc ?_ _)); refine blk_put (cs := #[.int .i64 ((rd_T32 t311 x75_5).f0), .int .i64 0, .int .i64 0, .int .i64 0]) ?_ 1 _ rfl; (with_reducible repeat (first | refine blk_drewN ?_ _ | refine blk_drew ?_ | refine blk_alloc ?_ _)); refine blk_put (cs := #[.int .i64 0, .int .i64 0, .int .i64 0, .int .i64 0]) ?_ 0 _ rfl; (with_reducible repeat (first | refine blk_drewN ?_ _ | refine blk_drew ?_ | refine blk_alloc ?_ _)); exact BK316.out⟩, ⟨by repeat (first | (with_reducible first | exact HB.out | apply below_alloc | apply pw_below_drewN | apply below_drew1 | refine below_set ?_ GE316.out) | exact HB.out)⟩⟩
                     case rest =>
                      clear HC37
                      try clear c1
                      try clear c2
                      try clear p2
                      try clear c3
                      try clear p3
                      try clear q3
                      try clear hx3
                      try clear c4
                      try clear c6
                      try clear p6
                      try clear c12
                      try clear c12b0 c12b1
                      try clear c19
                      try clear c21
                      try clear c21b0 c21b1
                      try clear c25
                      try clear c25b0 c25b1
                      try clear c26
                      try clear c26b0
                      try clear c28
                      try clear c30
                      try clear c30b0 c30b1
                      try clear c31
                      try clear c31b0 c31b1
                      try clear p31
                      try clear q31
                      try clear hx31
                      try clear c34
                      try clear c34b0
                      try clear c35
                      try clear c35b0
                      try clear c36
                      try clear c36b0
                      try clear c40
                      try clear c40b0 c40b1
                      try clear c42
                      try clear c42b0 c42b1
                      try clear c43
                      try clear c43b0
                      try clear c45
                      try clear c45b0
                      try clear c46
                      try clear c46b0
                      try clear c47
                      try clear c47b0
                      try clear c49
                      try clear c49b0 c49b1
                      try clear hcz39_0 hcz39_1 hcz39_2 hcz39_3
                      try clear hcz41_0 hcz41_1 hcz41_2 hcz41_3
                      try clear hcz48_0 hcz48_1 hcz48_2 hcz48_3
                      try clear hcz50_0 hcz50_1 hcz50_2 hcz50_3
                      try clear hcz51_0 hcz51_1 hcz51_2 hcz51_3
                      try clear hcz52_0 hcz52_1 hcz52_2 hcz52_3
                      try clear hcz53_0 hcz53_1 hcz53_2 hcz53_3
                      try clear hfz39_0 hfz39_1 hfz39_2 hfz39_3
                      try clear hfz41_0 hfz41_1 hfz41_2 hfz41_3
                      try clear hfz48_0 hfz48_1 hfz48_2 hfz48_3
                      try clear hfz50_0 hfz50_1 hfz50_2 hfz50_3
                      try clear hfz51_0 hfz51_1 hfz51_2 hfz51_3
                      try clear hfz52_0 hfz52_1 hfz52_2 hfz52_3
                      try clear hfz53_0 hfz53_1 hfz53_2 hfz53_3
                      try clear hx315_0
                      try clear hx315_1
                      try clear hx315_2
                      try clear hx315_3
                      try clear hx317_0
                      try clear hx317_1
                      try clear hx317_2
                      try clear hx317_3
                      try clear hx318_0
                      try clear hx318_1
                      try clear hx318_2
                      try clear hx318_3
                      try clear hx319_0
                      try clear hx319_1
                      try clear hx319_2
                      try clear hx319_3
                      try clear p2
                      try clear p315
                      try clear p317
                      try clear p318
                      try clear p319
                      try clear q315
                      try clear q317
                      try clear q318
                      try clear q319
                      obtain ⟨kq, x125_36, rfl, HA, HJ36, HO_10, HO_73, BK316, HB⟩ := hcut
                      cases kq with
                      | zero => exact absurd HA.out (by simp [mootlaw4_BackTells.j5])
                      | succ kj36 =>
                       have H := HA.out
                       clear HA
                       simp only [mootlaw4_BackTells.j5] at H
                       by_cases c54 : x125_36 = true
                       ·
                        subst c54
                        have H1 : (some false) = some r := by rw [if_pos rfl] at H; exact H
                        clear H
                        have H := H1
                        clear H1
                        obtain rfl := Option.some.inj H
                        go_wp2
                        repeat (go_quiet (fail); try go_wp2)
                        go_ret
                        exact ⟨by first | rfl | (simp [errW_none, errW_some] <;> rfl) | (simp [*, errW_none, errW_some] <;> rfl), by repeat (first | (with_reducible first | exact HB.out | apply below_alloc | apply pw_below_drewN | apply below_drew1 | refine below_set ?_ GE316.out) | exact HB.out)⟩
                       ·
                        as_aux_lemma =>
                         replace c54 := Bool.eq_false_iff.mpr c54
                         subst c54
                         have H1 : (if ((rd_T32 t311 x75_5).f0) = a3 then (mootlaw4_BackTells.j6 kj36 l0 l1 a2 a3 t311 x12_5 x13_5 t311 (t311.length : Int) x75_5 (decide (((rd_T32 t311 x75_5).f2) < 0)) ((rd_T32 t311 x75_5).f0) ((rd_T32 t311 x75_5).f1) ((rd_T32 t311 x75_5).f2) ((rd_T32 t311 x75_5).f3)) else (mootlaw4_BackTells.j6 kj36 l0 l1 a2 a3 t311 x12_5 x13_5 t311 (t311.length : Int) x75_5 false ((rd_T32 t311 x75_5).f0) ((rd_T32 t311 x75_5).f1) ((rd_T32 t311 x75_5).f2) ((rd_T32 t311 x75_5).f3))) = some r := by rw [if_neg (show ¬ (false = true) by decide)] at H; exact H
                         clear H
                         have H := H1
                         clear H1
                         have HC55 := Aside0.mk H
                         clear H
                         go_upto_region 21 with (fail)
                         repeat (go_quiet (fail); go_upto_region 21 with (fail))
                         go_cut [134] (fun v134 wc => ∃ (kq : Nat) (x134_54 : Bool), v134 = .bool x134_54 ∧ Aside0 (mootlaw4_BackTells.j6 kq l0 l1 a2 a3 t311 x12_5 x13_5 t311 (t311.length : Int) x75_5 x134_54 ((rd_T32 t311 x75_5).f0) ((rd_T32 t311 x75_5).f1) ((rd_T32 t311 x75_5).f2) ((rd_T32 t311 x75_5).f3) = some r) ∧ Aside0 (kq ≤ kj36) ∧ Aside0 (Kd.R k32 32 wc w.heap.size (fun k_ => k_ ≠ gb316) (.slice (some ad315) t311.length co33) t311) ∧ Aside0 (Kd.R k32 32 wc w.heap.size (fun k_ => k_ ≠ gb316) (.slice (some ad315) t311.length co33) t311) ∧ Aside0 (wc.heap[gb316]? = some (.cells #[.int .i64 ((rd_T32 t311 x75_5).f0), .int .i64 ((rd_T32 t311 x75_5).f1), .int .i64 ((rd_T32 t311 x75_5).f2), .int .i64 ((rd_T32 t311 x75_5).f3)] 32 (0, 0))) ∧ Aside0 (Below w.heap.size w wc))
                         case first =>
                          have H := HC55.out
                          clear HC55
                          by_cases c56 : ((rd_T32 t311 x75_5).f0) = a3
                          ·
                           rw [if_pos c56] at H
                           have c56b0 : (((rd_T32 t311 x75_5).f0) == a3) = true := beq_iff_eq.mpr c56
                           have c56b1 : (((rd_T32 t311 x75_5).f0) != a3) = false := bne_eq_false_iff_eq.mpr c56
                           clear c56
                           (first | rw [c56b0] | (simp only [i64_w, i32_w]; rw [c56b0]) | skip)
                           have H' := Aside0.mk H
                           clear H
                           have hcz57_0 : wc.cell? ⟨gb316, 0, none⟩ = some (.int .i64 ((rd_T32 t311 x75_5).f0)) := (blk_cell BK316.out 0).trans rfl
                           have hcz57_1 : wc.cell? ⟨gb316, 1, none⟩ = some (.int .i64 ((rd_T32 t311 x75_5).f1)) := (blk_cell BK316.out 1).trans rfl
                           have hcz57_2 : wc.cell? ⟨gb316, 2, none⟩ = some (.int .i64 ((rd_T32 t311 x75_5).f2)) := (blk_cell BK316.out 2).trans rfl
                           have hcz57_3 : wc.cell? ⟨gb316, 3, none⟩ = some (.int .i64 ((rd_T32 t311 x75_5).f3)) := (blk_cell BK316.out 3).trans rfl
                           have hfz57_0 := blk_frozen BK316.out 0
                           have hfz57_1 := blk_frozen BK316.out 1
                           have hfz57_2 := blk_frozen BK316.out 2
                           have hfz57_3 := blk_frozen BK316.out 3
                           go_wp2
                           repeat (go_quiet (fail); try go_wp2)
                           go_meet
                           case rel => exact ⟨_, (decide (((rd_T32 t311 x75_5).f2) < 0)), (by first | rfl | (simp; done) | (simp [*]; done)), H', ⟨by have := HJ7.out; have := HJ19.out; have := HJ23.out; have := HJ26.out; have := HK5.out; have := HJ36.out; first | omega | exact Nat.le_refl _⟩, ⟨by (with_reducible repeat (first | apply Kd.R_alloc | apply Kd.R_drewN | apply Kd.R_drew)); exact HO_10.out⟩, ⟨by (with_reducible repeat (first | apply Kd.R_alloc | apply Kd.R_drewN | apply Kd.R_drew)); exact HO_73.out⟩, ⟨by (with_reducible repeat (first | refine blk_drewN ?_ _ | refine blk_drew ?_ | refine blk_alloc ?_ _)); exact BK316.out⟩, ⟨by repeat (first | (with_reducible first | exact HB.out | apply below_alloc | apply pw_below_drewN | apply below_drew1 | refine below_set ?_ GE316.out) | exact HB.out)⟩⟩
                          ·
                           rw [if_neg c56] at H
                           have c56b0 : (((rd_T32 t311 x75_5).f0) == a3) = false := beq_eq_false_iff_ne.mpr c56
                           have c56b1 : (((rd_T32 t311 x75_5).f0) != a3) = true := bne_iff_ne.mpr c56
                           (first | rw [c56b0] | (simp only [i64_w, i32_w]; rw [c56b0]) | skip)
                           have H' := Aside0.mk H
                           clear H
                           have hcz58_0 : wc.cell? ⟨gb316, 0, none⟩ = some (.int .i64 ((rd_T32 t311 x75_5).f0)) := (blk_cell BK316.out 0).trans rfl
                           have hcz58_1 : wc.cell? ⟨gb316, 1, none⟩ = some (.int .i64 ((rd_T32 t311 x75_5).f1)) := (blk_cell BK316.out 1).trans rfl
                           have hcz58_2 : wc.cell? ⟨gb316, 2, none⟩ = some (.int .i64 ((rd_T32 t311 x75_5).f2)) := (blk_cell BK316.out 2).trans rfl
                           have hcz58_3 : wc.cell? ⟨gb316, 3, none⟩ = some (.int .i64 ((rd_T32 t311 x75_5).f3)) := (blk_cell BK316.out 3).trans rfl
                           have hfz58_0 := blk_frozen BK316.out 0
                           have hfz58_1 := blk_frozen BK316.out 1
                           have hfz58_2 := blk_frozen BK316.out 2
                           have hfz58_3 := blk_frozen BK316.out 3
                           go_wp2
                           repeat (go_quiet (fail); try go_wp2)
                           go_meet
                           case rel => exact ⟨_, (false), (by first | rfl | (simp; done) | (simp [*]; done)), H', ⟨by have := HJ7.out; have := HJ19.out; have := HJ23.out; have := HJ26.out; have := HK5.out; have := HJ36.out; first | omega | exact Nat.le_refl _⟩, ⟨by (with_reducible repeat (first | apply Kd.R_alloc | apply Kd.R_drewN | apply Kd.R_drew)); exact HO_10.out⟩, ⟨by (with_reducible repeat (first | apply Kd.R_alloc | apply Kd.R_drewN | apply Kd.R_drew)); exact HO_73.out⟩, ⟨by (with_reducible repeat (first | refine blk_drewN ?_ _ | refine blk_drew ?_ | refine blk_alloc ?_ _)); exact BK316.out⟩, ⟨by repeat (first | (with_reducible first | exact HB.out | apply below_alloc | apply pw_below_drewN | apply below_drew1 | refine below_set ?_ GE316.out) | exact HB.out)⟩⟩
                         case rest =>
                          clear HC55
                          try clear c1
                          try clear c2
                          try clear p2
                          try clear c3
                          try clear p3
                          try clear q3
                          try clear hx3
                          try clear c4
                          try clear c5
                          try clear c6
                          try clear p6
                          try clear c12
                          try clear c12b0 c12b1
                          try clear c19
                          try clear c21
                          try clear c21b0 c21b1
                          try clear c25
                          try clear c25b0 c25b1
                          try clear c26
                          try clear c26b0
                          try clear c28
                          try clear c30
                          try clear c30b0 c30b1
                          try clear c31
                          try clear c31b0 c31b1
                          try clear p31
                          try clear q31
                          try clear hx31
                          try clear c34
                          try clear c34b0
                          try clear c35
                          try clear c35b0
                          try clear c36
                          try clear c36b0
                          try clear c40
                          try clear c40b0 c40b1
                          try clear c42
                          try clear c42b0 c42b1
                          try clear c43
                          try clear c43b0
                          try clear c45
                          try clear c45b0
                          try clear c46
                          try clear c46b0
                          try clear c47
                          try clear c47b0
                          try clear c49
                          try clear c49b0 c49b1
                          try clear c54
                          try clear c56
                          try clear c56b0 c56b1
                          try clear hcz39_0 hcz39_1 hcz39_2 hcz39_3
                          try clear hcz41_0 hcz41_1 hcz41_2 hcz41_3
                          try clear hcz48_0 hcz48_1 hcz48_2 hcz48_3
                          try clear hcz50_0 hcz50_1 hcz50_2 hcz50_3
                          try clear hcz51_0 hcz51_1 hcz51_2 hcz51_3
                          try clear hcz52_0 hcz52_1 hcz52_2 hcz52_3
                          try clear hcz53_0 hcz53_1 hcz53_2 hcz53_3
                          try clear hcz57_0 hcz57_1 hcz57_2 hcz57_3
                          try clear hcz58_0 hcz58_1 hcz58_2 hcz58_3
                          try clear hfz39_0 hfz39_1 hfz39_2 hfz39_3
                          try clear hfz41_0 hfz41_1 hfz41_2 hfz41_3
                          try clear hfz48_0 hfz48_1 hfz48_2 hfz48_3
                          try clear hfz50_0 hfz50_1 hfz50_2 hfz50_3
                          try clear hfz51_0 hfz51_1 hfz51_2 hfz51_3
                          try clear hfz52_0 hfz52_1 hfz52_2 hfz52_3
                          try clear hfz53_0 hfz53_1 hfz53_2 hfz53_3
                          try clear hfz57_0 hfz57_1 hfz57_2 hfz57_3
                          try clear hfz58_0 hfz58_1 hfz58_2 hfz58_3
                          try clear hx315_0
                          try clear hx315_1
                          try clear hx315_2
                          try clear hx315_3
                          try clear hx317_0
                          try clear hx317_1
                          try clear hx317_2
                          try clear hx317_3
                          try clear hx318_0
                          try clear hx318_1
                          try clear hx318_2
                          try clear hx318_3
                          try clear hx319_0
                          try clear hx319_1
                          try clear hx319_2
                          try clear hx319_3
                          try clear p2
                          try clear p3
                          try clear p31
                          try clear p315
                          try clear p317
                          try clear p318
                          try clear p319
                          try clear p6
                          try clear q3
                          try clear q31
                          try clear q315
                          try clear q317
                          try clear q318
                          try clear q319
                          obtain ⟨kq, x134_54, rfl, HA, HJ54, HO_10, HO_73, BK316, HB⟩ := hcut
                          cases kq with
                          | zero => exact absurd HA.out (by simp [mootlaw4_BackTells.j6])
                          | succ kj54 =>
                           have H := HA.out
                           clear HA
                           simp only [mootlaw4_BackTells.j6] at H
                           by_cases c59 : x134_54 = true
                           ·
                            subst c59
                            have H1 : (if ((rd_T32 t311 x75_5).f0) = a3 then (if ((rd_T32 t311 x75_5).f2) > 0 then (mootlaw4_BackTells.l0 kj54 l0 l1 a2 a3 t311 (wrap64 (x12_5 - ((rd_T32 t311 x75_5).f2))) (wrap64 (x13_5 + ((rd_T32 t311 x75_5).f2))) t311 (t311.length : Int) (wrap64 (x75_5 + 1))) else (mootlaw4_BackTells.l0 kj54 l0 l1 a2 a3 t311 (wrap64 (x12_5 - ((rd_T32 t311 x75_5).f2))) x13_5 t311 (t311.length : Int) (wrap64 (x75_5 + 1)))) else (mootlaw4_BackTells.l0 kj54 l0 l1 a2 a3 t311 (wrap64 (x12_5 - ((rd_T32 t311 x75_5).f2))) x13_5 t311 (t311.length : Int) (wrap64 (x75_5 + 1)))) = some r := by rw [if_pos rfl] at H; exact H
                            clear H
                            have H := H1
                            clear H1
                            by_cases c60 : ((rd_T32 t311 x75_5).f0) = a3
                            ·
                             rw [if_pos c60] at H
                             have c60b0 : (((rd_T32 t311 x75_5).f0) == a3) = true := beq_iff_eq.mpr c60
                             have c60b1 : (((rd_T32 t311 x75_5).f0) != a3) = false := bne_eq_false_iff_eq.mpr c60
                             clear c60
                             by_cases c61 : ((rd_T32 t311 x75_5).f2) > 0
                             ·
                              rw [if_pos c61] at H
                              have c61b0 : decide (0 < ((rd_T32 t311 x75_5).f2)) = true := decide_eq_true c61
                              clear c61
                              have H' := Aside0.mk H
                              clear H
                              have hcz62_0 : wc.cell? ⟨gb316, 0, none⟩ = some (.int .i64 ((rd_T32 t311 x75_5).f0)) := (blk_cell BK316.out 0).trans rfl
                              have hcz62_1 : wc.cell? ⟨gb316, 1, none⟩ = some (.int .i64 ((rd_T32 t311 x75_5).f1)) := (blk_cell BK316.out 1).trans rfl
                              have hcz62_2 : wc.cell? ⟨gb316, 2, none⟩ = some (.int .i64 ((rd_T32 t311 x75_5).f2)) := (blk_cell BK316.out 2).trans rfl
                              have hcz62_3 : wc.cell? ⟨gb316, 3, none⟩ = some (.int .i64 ((rd_T32 t311 x75_5).f3)) := (blk_cell BK316.out 3).trans rfl
                              have hfz62_0 := blk_frozen BK316.out 0
                              have hfz62_1 := blk_frozen BK316.out 1
                              have hfz62_2 := blk_frozen BK316.out 2
                              have hfz62_3 := blk_frozen BK316.out 3
                              go_wp2
                              repeat (go_quiet (fail); try go_wp2)
                              go_roundg kj54
                              case measure => have := HJ7.out; have := HJ19.out; have := HJ23.out; have := HJ26.out; have := HK5.out; have := HJ36.out; have := HJ54.out; omega
                              case rel => exact ⟨(wrap64 (x12_5 - ((rd_T32 t311 x75_5).f2))), (wrap64 (x13_5 + ((rd_T32 t311 x75_5).f2))), (wrap64 (x75_5 + 1)), (by first | rfl | (simp; done) | (simp [*]; done)), (by first | rfl | (simp; done) | (simp [*]; done)), (by first | rfl | (simp; done) | (simp [*]; done)), H', ⟨by have := HJ7.out; have := HJ19.out; have := HJ23.out; have := HJ26.out; have := HK5.out; have := HJ36.out; have := HJ54.out; omega⟩, ⟨by (with_reducible repeat (first | apply Kd.R_alloc | apply Kd.R_drewN | apply Kd.R_drew)); exact Kd.R_mono HO_10.out (fun _ hk => trivial)⟩, ⟨by (with_reducible repeat (first | apply Kd.R_alloc | apply Kd.R_drewN | apply Kd.R_drew)); exact Kd.R_mono HO_73.out (fun _ hk => trivial)⟩, ⟨by repeat (first | (with_reducible first | exact HB.out | apply below_alloc | apply pw_below_drewN | apply below_drew1 | refine below_set ?_ GE316.out) | exact HB.out)⟩⟩
                             ·
                              rw [if_neg c61] at H
                              have c61b0 : decide (0 < ((rd_T32 t311 x75_5).f2)) = false := decide_eq_false c61
                              clear c61
                              have H' := Aside0.mk H
                              clear H
                              have hcz63_0 : wc.cell? ⟨gb316, 0, none⟩ = some (.int .i64 ((rd_T32 t311 x75_5).f0)) := (blk_cell BK316.out 0).trans rfl
                              have hcz63_1 : wc.cell? ⟨gb316, 1, none⟩ = some (.int .i64 ((rd_T32 t311 x75_5).f1)) := (blk_cell BK316.out 1).trans rfl
                              have hcz63_2 : wc.cell? ⟨gb316, 2, none⟩ = some (.int .i64 ((rd_T32 t311 x75_5).f2)) := (blk_cell BK316.out 2).trans rfl
                              have hcz63_3 : wc.cell? ⟨gb316, 3, none⟩ = some (.int .i64 ((rd_T32 t311 x75_5).f3)) := (blk_cell BK316.out 3).trans rfl
                              have hfz63_0 := blk_frozen BK316.out 0
                              have hfz63_1 := blk_frozen BK316.out 1
                              have hfz63_2 := blk_frozen BK316.out 2
                              have hfz63_3 := blk_frozen BK316.out 3
                              go_wp2
                              repeat (go_quiet (fail); try go_wp2)
                              go_roundg kj54
                              case measure => have := HJ7.out; have := HJ19.out; have := HJ23.out; have := HJ26.out; have := HK5.out; have := HJ36.out; have := HJ54.out; omega
                              case rel => exact ⟨(wrap64 (x12_5 - ((rd_T32 t311 x75_5).f2))), (x13_5), (wrap64 (x75_5 + 1)), (by first | rfl | (simp; done) | (simp [*]; done)), (by first | rfl | (simp; done) | (simp [*]; done)), (by first | rfl | (simp; done) | (simp [*]; done)), H', ⟨by have := HJ7.out; have := HJ19.out; have := HJ23.out; have := HJ26.out; have := HK5.out; have := HJ36.out; have := HJ54.out; omega⟩, ⟨by (with_reducible repeat (first | apply Kd.R_alloc | apply Kd.R_drewN | apply Kd.R_drew)); exact Kd.R_mono HO_10.out (fun _ hk => trivial)⟩, ⟨by (with_reducible repeat (first | apply Kd.R_alloc | apply Kd.R_drewN | apply Kd.R_drew)); exact Kd.R_mono HO_73.out (fun _ hk => trivial)⟩, ⟨by repeat (first | (with_reducible first | exact HB.out | apply below_alloc | apply pw_below_drewN | apply below_drew1 | refine below_set ?_ GE316.out) | exact HB.out)⟩⟩
                            ·
                             rw [if_neg c60] at H
                             have c60b0 : (((rd_T32 t311 x75_5).f0) == a3) = false := beq_eq_false_iff_ne.mpr c60
                             have c60b1 : (((rd_T32 t311 x75_5).f0) != a3) = true := bne_iff_ne.mpr c60
                             have H' := Aside0.mk H
                             clear H
                             have hcz64_0 : wc.cell? ⟨gb316, 0, none⟩ = some (.int .i64 ((rd_T32 t311 x75_5).f0)) := (blk_cell BK316.out 0).trans rfl
                             have hcz64_1 : wc.cell? ⟨gb316, 1, none⟩ = some (.int .i64 ((rd_T32 t311 x75_5).f1)) := (blk_cell BK316.out 1).trans rfl
                             have hcz64_2 : wc.cell? ⟨gb316, 2, none⟩ = some (.int .i64 ((rd_T32 t311 x75_5).f2)) := (blk_cell BK316.out 2).trans rfl
                             have hcz64_3 : wc.cell? ⟨gb316, 3, none⟩ = some (.int .i64 ((rd_T32 t311 x75_5).f3)) := (blk_cell BK316.out 3).trans rfl
                             have hfz64_0 := blk_frozen BK316.out 0
                             have hfz64_1 := blk_frozen BK316.out 1
                             have hfz64_2 := blk_frozen BK316.out 2
                             have hfz64_3 := blk_frozen BK316.out 3
                             go_wp2
                             repeat (go_quiet (fail); try go_wp2)
                             go_roundg kj54
                             case measure => have := HJ7.out; have := HJ19.out; have := HJ23.out; have := HJ26.out; have := HK5.out; have := HJ36.out; have := HJ54.out; omega
                             case rel => exact ⟨(wrap64 (x12_5 - ((rd_T32 t311 x75_5).f2))), (x13_5), (wrap64 (x75_5 + 1)), (by first | rfl | (simp; done) | (simp [*]; done)), (by first | rfl | (simp; done) | (simp [*]; done)), (by first | rfl | (simp; done) | (simp [*]; done)), H', ⟨by have := HJ7.out; have := HJ19.out; have := HJ23.out; have := HJ26.out; have := HK5.out; have := HJ36.out; have := HJ54.out; omega⟩, ⟨by (with_reducible repeat (first | apply Kd.R_alloc | apply Kd.R_drewN | apply Kd.R_drew)); exact Kd.R_mono HO_10.out (fun _ hk => trivial)⟩, ⟨by (with_reducible repeat (first | apply Kd.R_alloc | apply Kd.R_drewN | apply Kd.R_drew)); exact Kd.R_mono HO_73.out (fun _ hk => trivial)⟩, ⟨by repeat (first | (with_reducible first | exact HB.out | apply below_alloc | apply pw_below_drewN | apply below_drew1 | refine below_set ?_ GE316.out) | exact HB.out)⟩⟩
                           ·
                            replace c59 := Bool.eq_false_iff.mpr c59
                            subst c59
                            have H1 : (if ((rd_T32 t311 x75_5).f0) = a3 then (if ((rd_T32 t311 x75_5).f2) > 0 then (mootlaw4_BackTells.l0 kj54 l0 l1 a2 a3 t311 x12_5 (wrap64 (x13_5 + ((rd_T32 t311 x75_5).f2))) t311 (t311.length : Int) (wrap64 (x75_5 + 1))) else (mootlaw4_BackTells.l0 kj54 l0 l1 a2 a3 t311 x12_5 x13_5 t311 (t311.length : Int) (wrap64 (x75_5 + 1)))) else (mootlaw4_BackTells.l0 kj54 l0 l1 a2 a3 t311 x12_5 x13_5 t311 (t311.length : Int) (wrap64 (x75_5 + 1)))) = some r := by rw [if_neg (show ¬ (false = true) by decide)] at H; exact H
                            clear H
                            have H := H1
                            clear H1
                            by_cases c65 : ((rd_T32 t311 x75_5).f0) = a3
                            ·
                             rw [if_pos c65] at H
                             have c65b0 : (((rd_T32 t311 x75_5).f0) == a3) = true := beq_iff_eq.mpr c65
                             have c65b1 : (((rd_T32 t311 x75_5).f0) != a3) = false := bne_eq_false_iff_eq.mpr c65
                             clear c65
                             by_cases c66 : ((rd_T32 t311 x75_5).f2) > 0
                             ·
                              rw [if_pos c66] at H
                              have c66b0 : decide (0 < ((rd_T32 t311 x75_5).f2)) = true := decide_eq_true c66
                              clear c66
                              have H' := Aside0.mk H
                              clear H
                              have hcz67_0 : wc.cell? ⟨gb316, 0, none⟩ = some (.int .i64 ((rd_T32 t311 x75_5).f0)) := (blk_cell BK316.out 0).trans rfl
                              have hcz67_1 : wc.cell? ⟨gb316, 1, none⟩ = some (.int .i64 ((rd_T32 t311 x75_5).f1)) := (blk_cell BK316.out 1).trans rfl
                              have hcz67_2 : wc.cell? ⟨gb316, 2, none⟩ = some (.int .i64 ((rd_T32 t311 x75_5).f2)) := (blk_cell BK316.out 2).trans rfl
                              have hcz67_3 : wc.cell? ⟨gb316, 3, none⟩ = some (.int .i64 ((rd_T32 t311 x75_5).f3)) := (blk_cell BK316.out 3).trans rfl
                              have hfz67_0 := blk_frozen BK316.out 0
                              have hfz67_1 := blk_frozen BK316.out 1
                              have hfz67_2 := blk_frozen BK316.out 2
                              have hfz67_3 := blk_frozen BK316.out 3
                              go_wp2
                              repeat (go_quiet (fail); try go_wp2)
                              go_roundg kj54
                              case measure => have := HJ7.out; have := HJ19.out; have := HJ23.out; have := HJ26.out; have := HK5.out; have := HJ36.out; have := HJ54.out; omega
                              case rel => exact ⟨(x12_5), (wrap64 (x13_5 + ((rd_T32 t311 x75_5).f2))), (wrap64 (x75_5 + 1)), (by first | rfl | (simp; done) | (simp [*]; done)), (by first | rfl | (simp; done) | (simp [*]; done)), (by first | rfl | (simp; done) | (simp [*]; done)), H', ⟨by have := HJ7.out; have := HJ19.out; have := HJ23.out; have := HJ26.out; have := HK5.out; have := HJ36.out; have := HJ54.out; omega⟩, ⟨by (with_reducible repeat (first | apply Kd.R_alloc | apply Kd.R_drewN | apply Kd.R_drew)); exact Kd.R_mono HO_10.out (fun _ hk => trivial)⟩, ⟨by (with_reducible repeat (first | apply Kd.R_alloc | apply Kd.R_drewN | apply Kd.R_drew)); exact Kd.R_mono HO_73.out (fun _ hk => trivial)⟩, ⟨by repeat (first | (with_reducible first | exact HB.out | apply below_alloc | apply pw_below_drewN | apply below_drew1 | refine below_set ?_ GE316.out) | exact HB.out)⟩⟩
                             ·
                              rw [if_neg c66] at H
                              have c66b0 : decide (0 < ((rd_T32 t311 x75_5).f2)) = false := decide_eq_false c66
                              clear c66
                              have H' := Aside0.mk H
                              clear H
                              have hcz68_0 : wc.cell? ⟨gb316, 0, none⟩ = some (.int .i64 ((rd_T32 t311 x75_5).f0)) := (blk_cell BK316.out 0).trans rfl
                              have hcz68_1 : wc.cell? ⟨gb316, 1, none⟩ = some (.int .i64 ((rd_T32 t311 x75_5).f1)) := (blk_cell BK316.out 1).trans rfl
                              have hcz68_2 : wc.cell? ⟨gb316, 2, none⟩ = some (.int .i64 ((rd_T32 t311 x75_5).f2)) := (blk_cell BK316.out 2).trans rfl
                              have hcz68_3 : wc.cell? ⟨gb316, 3, none⟩ = some (.int .i64 ((rd_T32 t311 x75_5).f3)) := (blk_cell BK316.out 3).trans rfl
                              have hfz68_0 := blk_frozen BK316.out 0
                              have hfz68_1 := blk_frozen BK316.out 1
                              have hfz68_2 := blk_frozen BK316.out 2
                              have hfz68_3 := blk_frozen BK316.out 3
                              go_wp2
                              repeat (go_quiet (fail); try go_wp2)
                              go_roundg kj54
                              case measure => have := HJ7.out; have := HJ19.out; have := HJ23.out; have := HJ26.out; have := HK5.out; have := HJ36.out; have := HJ54.out; omega
                              case rel => exact ⟨(x12_5), (x13_5), (wrap64 (x75_5 + 1)), (by first | rfl | (simp; done) | (simp [*]; done)), (by first | rfl | (simp; done) | (simp [*]; done)), (by first | rfl | (simp; done) | (simp [*]; done)), H', ⟨by have := HJ7.out; have := HJ19.out; have := HJ23.out; have := HJ26.out; have := HK5.out; have := HJ36.out; have := HJ54.out; omega⟩, ⟨by (with_reducible repeat (first | apply Kd.R_alloc | apply Kd.R_drewN | apply Kd.R_drew)); exact Kd.R_mono HO_10.out (fun _ hk => trivial)⟩, ⟨by (with_reducible repeat (first | apply Kd.R_alloc | apply Kd.R_drewN | apply Kd.R_drew)); exact Kd.R_mono HO_73.out (fun _ hk => trivial)⟩, ⟨by repeat (first | (with_reducible first | exact HB.out | apply below_alloc | apply pw_below_drewN | apply below_drew1 | refine below_set ?_ GE316.out) | exact HB.out)⟩⟩
                            ·
                             rw [if_neg c65] at H
                             have c65b0 : (((rd_T32 t311 x75_5).f0) == a3) = false := beq_eq_false_iff_ne.mpr c65
                             have c65b1 : (((rd_T32 t311 x75_5).f0) != a3) = true := bne_iff_ne.mpr c65
                             have H' := Aside0.mk H
                             clear H
                             have hcz69_0 : wc.cell? ⟨gb316, 0, none⟩ = some (.int .i64 ((rd_T32 t311 x75_5).f0)) := (blk_cell BK316.out 0).trans rfl
                             have hcz69_1 : wc.cell? ⟨gb316, 1, none⟩ = some (.int .i64 ((rd_T32 t311 x75_5).f1)) := (blk_cell BK316.out 1).trans rfl
                             have hcz69_2 : wc.cell? ⟨gb316, 2, none⟩ = some (.int .i64 ((rd_T32 t311 x75_5).f2)) := (blk_cell BK316.out 2).trans rfl
                             have hcz69_3 : wc.cell? ⟨gb316, 3, none⟩ = some (.int .i64 ((rd_T32 t311 x75_5).f3)) := (blk_cell BK316.out 3).trans rfl
                             have hfz69_0 := blk_frozen BK316.out 0
                             have hfz69_1 := blk_frozen BK316.out 1
                             have hfz69_2 := blk_frozen BK316.out 2
                             have hfz69_3 := blk_frozen BK316.out 3
                             go_wp2
                             repeat (go_quiet (fail); try go_wp2)
                             go_roundg kj54
                             case measure => have := HJ7.out; have := HJ19.out; have := HJ23.out; have := HJ26.out; have := HK5.out; have := HJ36.out; have := HJ54.out; omega
                             case rel => exact ⟨(x12_5), (x13_5), (wrap64 (x75_5 + 1)), (by first | rfl | (simp; done) | (simp [*]; done)), (by first | rfl | (simp; done) | (simp [*]; done)), (by first | rfl | (simp; done) | (simp [*]; done)), H', ⟨by have := HJ7.out; have := HJ19.out; have := HJ23.out; have := HJ26.out; have := HK5.out; have := HJ36.out; have := HJ54.out; omega⟩, ⟨by (with_reducible repeat (first | apply Kd.R_alloc | apply Kd.R_drewN | apply Kd.R_drew)); exact Kd.R_mono HO_10.out (fun _ hk => trivial)⟩, ⟨by (with_reducible repeat (first | apply Kd.R_alloc | apply Kd.R_drewN | apply Kd.R_drew)); exact Kd.R_mono HO_73.out (fun _ hk => trivial)⟩, ⟨by repeat (first | (with_reducible first | exact HB.out | apply below_alloc | apply pw_below_drewN | apply below_drew1 | refine below_set ?_ GE316.out) | exact HB.out)⟩⟩
                   ·
                    as_aux_lemma =>
                     rw [if_neg c34] at H
                     have c34b0 : decide (x75_5 < (t311.length : Int)) = false := decide_eq_false c34
                     clear c34
                     replace H := Option.bind_eq_some_iff.mp H
                     obtain ⟨t320, A700, H⟩ := H
                     replace H : (mootlaw4_BackTells.l1 k5 l0 l1 a3 t311 x12_5 x13_5 t320 (t320.length : Int) 0) = some r := H
                     have A70 := Aside0.mk A700
                     clear A700
                     have H' := Aside0.mk H
                     clear H
                     go_wp2_with (first | (go_at_call 17; (with_reducible refine (api_Pay_17.cat3.calls _ _ l0 _ _ l1 _ _ t311 t320 _ ?side1 ?side2 ?side3 ?side4 ?side5 ?side6 A70.out).mono ?_); (case side1 => repeat (first | exact (Kd.C_below HR0.out HB.out) | (with_reducible refine Kd.C_alloc ?_ _) | (with_reducible refine Kd.C_drewN ?_ _) | (with_reducible refine Kd.C_drew ?_))); (case side2 => exact HC0.out); (case side3 => repeat (first | exact (Kd.C_below HR1.out HB.out) | (with_reducible refine Kd.C_alloc ?_ _) | (with_reducible refine Kd.C_drewN ?_ _) | (with_reducible refine Kd.C_drew ?_))); (case side4 => exact HC1.out); (case side5 => repeat (first | exact (Kd.R_reads' HO_10.out).2.2 | (with_reducible refine Kd.C_alloc ?_ _) | (with_reducible refine Kd.C_drewN ?_ _) | (with_reducible refine Kd.C_drew ?_))); (case side6 => exact (Kd.R_reads' HO_10.out).2.1); rintro e w71 ⟨v321, rfl, ho0, hb⟩; have n0_ := Aside0.mk (Kd.R_elder' (by (with_reducible repeat (first | apply Kd.R_alloc | apply Kd.R_drewN | apply Kd.R_drew)); exact HO_10.out) (Kd.R_base ho0) hb); have n1_ := Aside0.mk (Kd.R_elder' (by (with_reducible repeat (first | apply Kd.R_alloc | apply Kd.R_drewN | apply Kd.R_drew)); exact HO_73.out) (Kd.R_base ho0) hb); have n2_ := Aside0.mk (Kd.R_lower (Kd.R_new' (Kd.R_new' ho0 (Kd.R_lt (by (with_reducible repeat (first | apply Kd.R_alloc | apply Kd.R_drewN | apply Kd.R_drew)); exact HO_10.out))) (Kd.R_lt (by (with_reducible repeat (first | apply Kd.R_alloc | apply Kd.R_drewN | apply Kd.R_drew)); exact HO_73.out))) (below_size (by repeat (first | (with_reducible first | exact HB.out | apply below_alloc | apply pw_below_drewN | apply below_drew1) | exact HB.out)))); have n3_ := Aside0.mk (below_step (by repeat (first | (with_reducible first | exact HB.out | apply below_alloc | apply pw_below_drewN | apply below_drew1) | exact HB.out)) hb); clear HO_10; clear HO_73; clear HB; have HO_10 := n0_; have HO_73 := n1_; have HO322 := n2_; have HB := n3_; clear n0_ n1_ n2_ n3_; (try clear hb); (try clear hb2); (try clear hk); (try clear hi); (try clear ho0); obtain ⟨Ao72, co72, eo72⟩ := Kd.R_slice HO322.out; subst eo72))
                     repeat (go_quiet (fail); try go_wp2)
                     go_loopg [159] k5 (fun kq v159 w' => ∃ (x159_6 : Int), v159 = .int .i64 x159_6 ∧ Aside0 (mootlaw4_BackTells.l1 kq l0 l1 a3 t311 x12_5 x13_5 t320 (t320.length : Int) x159_6 = some r) ∧ Aside0 (kq ≤ k5) ∧ Aside0 (Kd.R k32 32 w' w.heap.size (fun k_ => some k_ ≠ ((.slice Ao72 t320.length co72) : Value).ownBlock) (.slice Ao33 t311.length co33) t311) ∧ Aside0 (Kd.R k32 32 w' w.heap.size (fun k_ => some k_ ≠ ((.slice Ao33 t311.length co33) : Value).ownBlock) (.slice Ao72 t320.length co72) t320) ∧ Aside0 (Below w.heap.size w w'))
                     case atStart => exact ⟨(0), (by first | rfl | (simp; done) | (simp [*]; done)), H', ⟨Nat.le_refl _⟩, ⟨by (with_reducible repeat (first | apply Kd.R_alloc | apply Kd.R_drewN | apply Kd.R_drew)); exact Kd.R_mono HO_10.out (fun _ hk => hk.2)⟩, ⟨by (with_reducible repeat (first | apply Kd.R_alloc | apply Kd.R_drewN | apply Kd.R_drew)); exact Kd.R_mono HO322.out (fun _ hk => hk.1.2)⟩, ⟨by repeat (first | (with_reducible first | exact HB.out | apply below_alloc | apply pw_below_drewN | apply below_drew1) | exact HB.out)⟩⟩
                     case round =>
                      clear H'
                      try clear c1
                      try clear c2
                      try clear p2
                      try clear c3
                      try clear p3
                      try clear q3
                      try clear hx3
                      try clear c4
                      try clear c5
                      try clear c6
                      try clear p6
                      try clear c12
                      try clear c12b0 c12b1
                      try clear c19
                      try clear c21
                      try clear c21b0 c21b1
                      try clear c25
                      try clear c25b0 c25b1
                      try clear c26
                      try clear c26b0
                      try clear c28
                      try clear c30
                      try clear c30b0 c30b1
                      try clear c31
                      try clear c31b0 c31b1
                      try clear p31
                      try clear q31
                      try clear hx31
                      try clear c34
                      try clear c34b0
                      try clear c35
                      try clear c35b0
                      try clear c36
                      try clear c36b0
                      try clear c40
                      try clear c40b0 c40b1
                      try clear c42
                      try clear c42b0 c42b1
                      try clear c43
                      try clear c43b0
                      try clear c45
                      try clear c45b0
                      try clear c46
                      try clear c46b0
                      try clear c47
                      try clear c47b0
                      try clear c49
                      try clear c49b0 c49b1
                      try clear c54
                      try clear c56
                      try clear c56b0 c56b1
                      try clear c59
                      try clear c60
                      try clear c60b0 c60b1
                      try clear c61
                      try clear c61b0
                      try clear p64
                      try clear c65
                      try clear c65b0 c65b1
                      try clear c66
                      try clear c66b0
                      try clear hcz39_0 hcz39_1 hcz39_2 hcz39_3
                      try clear hcz41_0 hcz41_1 hcz41_2 hcz41_3
                      try clear hcz48_0 hcz48_1 hcz48_2 hcz48_3
                      try clear hcz50_0 hcz50_1 hcz50_2 hcz50_3
                      try clear hcz51_0 hcz51_1 hcz51_2 hcz51_3
                      try clear hcz52_0 hcz52_1 hcz52_2 hcz52_3
                      try clear hcz53_0 hcz53_1 hcz53_2 hcz53_3
                      try clear hcz57_0 hcz57_1 hcz57_2 hcz57_3
                      try clear hcz58_0 hcz58_1 hcz58_2 hcz58_3
                      try clear hcz62_0 hcz62_1 hcz62_2 hcz62_3
                      try clear hcz63_0 hcz63_1 hcz63_2 hcz63_3
                      try clear hcz64_0 hcz64_1 hcz64_2 hcz64_3
                      try clear hcz67_0 hcz67_1 hcz67_2 hcz67_3
                      try clear hcz68_0 hcz68_1 hcz68_2 hcz68_3
                      try clear hcz69_0 hcz69_1 hcz69_2 hcz69_3
                      try clear hfz39_0 hfz39_1 hfz39_2 hfz39_3
                      try clear hfz41_0 hfz41_1 hfz41_2 hfz41_3
                      try clear hfz48_0 hfz48_1 hfz48_2 hfz48_3
                      try clear hfz50_0 hfz50_1 hfz50_2 hfz50_3
                      try clear hfz51_0 hfz51_1 hfz51_2 hfz51_3
                      try clear hfz52_0 hfz52_1 hfz52_2 hfz52_3
                      try clear hfz53_0 hfz53_1 hfz53_2 hfz53_3
                      try clear hfz57_0 hfz57_1 hfz57_2 hfz57_3
                      try clear hfz58_0 hfz58_1 hfz58_2 hfz58_3
                      try clear hfz62_0 hfz62_1 hfz62_2 hfz62_3
                      try clear hfz63_0 hfz63_1 hfz63_2 hfz63_3
                      try clear hfz64_0 hfz64_1 hfz64_2 hfz64_3
                      try clear hfz67_0 hfz67_1 hfz67_2 hfz67_3
                      try clear hfz68_0 hfz68_1 hfz68_2 hfz68_3
                      try clear hfz69_0 hfz69_1 hfz69_2 hfz69_3
                      try clear hx315_0
                      try clear hx315_1
                      try clear hx315_2
                      try clear hx315_3
                      try clear hx317_0
                      try clear hx317_1
                      try clear hx317_2
                      try clear hx317_3
                      try clear hx318_0
                      try clear hx318_1
                      try clear hx318_2
                      try clear hx318_3
                      try clear hx319_0
                      try clear hx319_1
                      try clear hx319_2
                      try clear hx319_3
                      try clear p2
                      try clear p3
                      try clear p31
                      try clear p315
                      try clear p317
                      try clear p318
                      try clear p319
                      try clear p6
                      try clear q3
                      try clear q31
                      try clear q315
                      try clear q317
                      try clear q318
                      try clear q319
                      obtain ⟨x159_6, rfl, HA, HK6, HO_10, HO_157, HB⟩ := hrel
                      cases gk with
                      | zero => exact absurd HA.out (by simp [mootlaw4_BackTells.l1])
                      | succ k6 =>
                       have H := HA.out
                       clear HA
                       simp only [mootlaw4_BackTells.l1] at H
                       by_cases c73 : x159_6 < (t320.length : Int)
                       ·
                        as_aux_lemma =>
                         rw [if_pos c73] at H
                         have c73b0 : decide (x159_6 < (t320.length : Int)) = true := decide_eq_true c73
                         clear c73
                         by_cases c74 : 0 ≤ x159_6
                         rotate_left
                         ·
                          rw [if_neg c74] at H
                          exact absurd H (by simp)
                         rw [if_pos c74] at H
                         have c74b0 : decide (0 ≤ x159_6) = true := decide_eq_true c74
                         clear c74
                         by_cases c75 : x159_6 < (t320.length : Int)
                         rotate_left
                         ·
                          rw [if_neg c75] at H
                          exact absurd H (by simp)
                         rw [if_pos c75] at H
                         have c75b0 : decide (x159_6 < (t320.length : Int)) = true := decide_eq_true c75
                         clear c75
                         replace H := Option.bind_eq_some_iff.mp H
                         obtain ⟨t327, A760, H⟩ := H
                         replace H : (mootlaw4_BackTells.l2 k6 l0 l1 a3 t311 x12_5 x13_5 0 t320 (t320.length : Int) x159_6 t327 (t327.length : Int) 0 ((rd_T32 t320 x159_6).f0) ((rd_T32 t320 x159_6).f1) ((rd_T32 t320 x159_6).f2) ((rd_T32 t320 x159_6).f3)) = some r := H
                         have A76 := Aside0.mk A760
                         clear A760
                         have H' := Aside0.mk H
                         clear H
                         have p325 : 0 ≤ (x159_6 : Int) := of_decide_eq_true (by first | (with_reducible assumption) | assumption)
                         have q325 : x159_6 < (t320.length : Int) := of_decide_eq_true (by first | (with_reducible assumption) | assumption)
                         obtain ⟨ad325, e325, hx325_0, hx325_1, hx325_2, hx325_3⟩ := at_T32 (Kd.R_reads' HO_157.out).2.2 x159_6 p325 q325
                         cases e325
                         replace p325 := eq_true p325
                         replace q325 := eq_true q325
                         go_wp2_with (first | ((with_reducible refine gate_dst (N := 17) rfl ?_); (try (refine gate_guard (by rfl) ?_; dsimp only)); refine box_event ?hg (N := 17) ?hd (cs := #[.int .i64 0, .int .i64 0, .int .i64 0, .int .i64 0]) (t := 32) ?hr ?_; (case hd => rfl); (case hg => rfl); (case hr => first | (go_simp; done) | (go_simp; rfl)); intro gb326 hg w77 hbox hb; have n0_ := Aside0.mk (Kd.R_below (Kd.R_elderB (by (with_reducible repeat (first | apply Kd.R_alloc | apply Kd.R_drewN | apply Kd.R_drew)); exact HO_10.out) gb326 (Nat.le_of_eq hg.symm)) hb); have n1_ := Aside0.mk (Kd.R_below (Kd.R_elderB (by (with_reducible repeat (first | apply Kd.R_alloc | apply Kd.R_drewN | apply Kd.R_drew)); exact HO_157.out) gb326 (Nat.le_of_eq hg.symm)) hb); have n2_ := Aside0.mk (below_step (by repeat (first | (with_reducible first | exact HB.out | apply below_alloc | apply pw_below_drewN | apply below_drew1) | exact HB.out)) hb); have n3_ := Aside0.mk (hbox); have n4_ := Aside0.mk ((by rw [hg]; exact (below_size (by repeat (first | (with_reducible first | exact HB.out | apply below_alloc | apply pw_below_drewN | apply below_drew1) | exact HB.out))) : w.heap.size ≤ gb326)); have n5_ := Aside0.mk ((by rw [hg]; exact (below_size (by repeat (first | (with_reducible first | exact HB.out | apply below_alloc | apply pw_below_drewN | apply below_drew1) | exact HB.out))) : w.heap.size ≤ gb326)); clear HO_10; clear HO_157; clear HB; have HO_10 := n0_; have HO_157 := n1_; have HB := n2_; have BK326 := n3_; have GW326 := n4_; have GE326 := n5_; clear n0_ n1_ n2_ n3_ n4_ n5_; clear hb hbox hg; have hcz78_0 : w77.cell? ⟨gb326, 0, none⟩ = some (.int .i64 0) := (blk_cell BK326.out 0).trans rfl; have hcz78_1 : w77.cell? ⟨gb326, 1, none⟩ = some (.int .i64 0) := (blk_cell BK326.out 1).trans rfl; have hcz78_2 : w77.cell? ⟨gb326, 2, none⟩ = some (.int .i64 0) := (blk_cell BK326.out 2).trans rfl; have hcz78_3 : w77.cell? ⟨gb326, 3, none⟩ = some (.int .i64 0) := (blk_cell BK326.out 3).trans rfl; have hfz78_0 := blk_frozen BK326.out 0; have hfz78_1 := blk_frozen BK326.out 1; have hfz78_2 := blk_frozen BK326.out 2; have hfz78_3 := blk_frozen BK326.out 3) | (go_at_call 17; (with_reducible refine (api_Pay_17.cat2.calls _ _ l0 _ _ t311 t327 _ ?side1 ?side2 ?side3 ?side4 A76.out).mono ?_); (case side1 => exact Kd.C_below HR0.out (by repeat (first | (with_reducible first | exact HB.out | apply below_alloc | apply pw_below_drewN | apply below_drew1 | refine below_set ?_ GE326.out) | exact HB.out))); (case side2 => exact HC0.out); (case side3 => refine (Kd.R_reads' (e := 32) (base := w.heap.size) (ok := fun k_ => (some k_ ≠ (.slice (some ad325) t320.length co72 : Value).ownBlock ∧ k_ ≠ gb326)) (n := t311.length) (c := co33) ?_).2.2; exact (by (with_reducible repeat (first | apply Kd.R_alloc | apply Kd.R_drewN | apply Kd.R_drew)); exact (Kd.R_mono (Kd.R_far (p := ⟨gb326, 3, none⟩) (Kd.R_far (p := ⟨gb326, 2, none⟩) (Kd.R_far (p := ⟨gb326, 1, none⟩) (Kd.R_far (p := ⟨gb326, 0, none⟩) (Kd.R_mono HO_10.out (fun k_ hk => (⟨hk, hk.2⟩ : _ ∧ k_ ≠ gb326))) (fun _ hk => hk.2) (.int .i64 ((rd_T32 t320 x159_6).f0))) (fun _ hk => hk.2) (.int .i64 ((rd_T32 t320 x159_6).f1))) (fun _ hk => hk.2) (.int .i64 ((rd_T32 t320 x159_6).f2))) (fun _ hk => hk.2) (.int .i64 ((rd_T32 t320 x159_6).f3))) (fun _ h_ => h_.1)))); (case side4 => exact (Kd.R_reads' HO_10.out).2.1); rintro e w79 ⟨v328, rfl, ho0, hb⟩; have n0_ := Aside0.mk (Kd.R_elder' (by (with_reducible repeat (first | apply Kd.R_alloc | apply Kd.R_drewN | apply Kd.R_drew)); exact (Kd.R_mono (Kd.R_far (p := ⟨gb326, 3, none⟩) (Kd.R_far (p := ⟨gb326, 2, none⟩) (Kd.R_far (p := ⟨gb326, 1, none⟩) (Kd.R_far (p := ⟨gb326, 0, none⟩) (Kd.R_mono HO_10.out (fun k_ hk => (⟨hk, hk.2⟩ : _ ∧ k_ ≠ gb326))) (fun _ hk => hk.2) (.int .i64 ((rd_T32 t320 x159_6).f0))) (fun _ hk => hk.2) (.int .i64 ((rd_T32 t320 x159_6).f1))) (fun _ hk => hk.2) (.int .i64 ((rd_T32 t320 x159_6).f2))) (fun _ hk => hk.2) (.int .i64 ((rd_T32 t320 x159_6).f3))) (fun _ h_ => h_.1))) (Kd.R_base ho0) hb); have n1_ := Aside0.mk (Kd.R_elder' (by (with_reducible repeat (first | apply Kd.R_alloc | apply Kd.R_drewN | apply Kd.R_drew)); exact (Kd.R_mono (Kd.R_far (p := ⟨gb326, 3, none⟩) (Kd.R_far (p := ⟨gb326, 2, none⟩) (Kd.R_far (p := ⟨gb326, 1, none⟩) (Kd.R_far (p := ⟨gb326, 0, none⟩) (Kd.R_mono HO_157.out (fun k_ hk => (⟨hk, hk.2⟩ : _ ∧ k_ ≠ gb326))) (fun _ hk => hk.2) (.int .i64 ((rd_T32 t320 x159_6).f0))) (fun _ hk => hk.2) (.int .i64 ((rd_T32 t320 x159_6).f1))) (fun _ hk => hk.2) (.int .i64 ((rd_T32 t320 x159_6).f2))) (fun _ hk => hk.2) (.int .i64 ((rd_T32 t320 x159_6).f3))) (fun _ h_ => h_.1))) (Kd.R_base ho0) hb); have n2_ := Aside0.mk (Kd.R_lower (Kd.R_newB (Kd.R_new' (Kd.R_new' ho0 (Kd.R_lt (by (with_reducible repeat (first | apply Kd.R_alloc | apply Kd.R_drewN | apply Kd.R_drew)); exact (Kd.R_mono (Kd.R_far (p := ⟨gb326, 3, none⟩) (Kd.R_far (p := ⟨gb326, 2, none⟩) (Kd.R_far (p := ⟨gb326, 1, none⟩) (Kd.R_far (p := ⟨gb326, 0, none⟩) (Kd.R_mono HO_10.out (fun k_ hk => (⟨hk, hk.2⟩ : _ ∧ k_ ≠ gb326))) (fun _ hk => hk.2) (.int .i64 ((rd_T32 t320 x159_6).f0))) (fun _ hk => hk.2) (.int .i64 ((rd_T32 t320 x159_6).f1))) (fun _ hk => hk.2) (.int .i64 ((rd_T32 t320 x159_6).f2))) (fun _ hk => hk.2) (.int .i64 ((rd_T32 t320 x159_6).f3))) (fun _ h_ => h_.1))))) (Kd.R_lt (by (with_reducible repeat (first | apply Kd.R_alloc | apply Kd.R_drewN | apply Kd.R_drew)); exact (Kd.R_mono (Kd.R_far (p := ⟨gb326, 3, none⟩) (Kd.R_far (p := ⟨gb326, 2, none⟩) (Kd.R_far (p := ⟨gb326, 1, none⟩) (Kd.R_far (p := ⟨gb326, 0, none⟩) (Kd.R_mono HO_157.out (fun k_ hk => (⟨hk, hk.2⟩ : _ ∧ k_ ≠ gb326))) (fun _ hk => hk.2) (.int .i64 ((rd_T32 t320 x159_6).f0))) (fun _ hk => hk.2) (.int .i64 ((rd_T32 t320 x159_6).f1))) (fun _ hk => hk.2) (.int .i64 ((rd_T32 t320 x159_6).f2))) (fun _ hk => hk.2) (.int .i64 ((rd_T32 t320 x159_6).f3))) (fun _ h_ => h_.1))))) (g := gb326) (o := .cells #[.int .i64 ((rd_T32 t320 x159_6).f0), .int .i64 ((rd_T32 t320 x159_6).f1), .int .i64 ((rd_T32 t320 x159_6).f2), .int .i64 ((rd_T32 t320 x159_6).f3)] 32 (0, 0)) (by (with_reducible repeat (first | refine blk_drewN ?_ _ | refine blk_drew ?_ | refine blk_alloc ?_ _)); refine blk_put (cs := #[.int .i64 ((rd_T32 t320 x159_6).f0), .int .i64 ((rd_T32 t320 x159_6).f1), .int .i64 ((rd_T32 t320 x159_6).f2), .int .i64 0]) ?_ 3 _ rfl; (with_reducible repeat (first | refine blk_drewN ?_ _ | refine blk_drew ?_ | refine blk_alloc ?_ _)); refine blk_put (cs := #[.int .i64 ((rd_T32 t320 x159_6).f0), .int .i64 ((rd_T32 t320 x159_6).f1), .int .i64 0, .int .i64 0]) ?_ 2 _ rfl; (with_reducible repeat (first | refine blk_drewN ?_ _ | refine blk_drew ?_ | refine blk_alloc ?_ _)); refine blk_put (cs := #[.int .i64 ((rd_T32 t320 x159_6).f0), .int .i64 0, .int .i64 0, .int .i64 0]) ?_ 1 _ rfl; (with_reducible repeat (first | refine blk_drewN ?_ _ | refine blk_drew ?_ | refine blk_alloc ?_ _)); refine blk_put (cs := #[.int .i64 0, .int .i64 0, .int .i64 0, .int .i64 0]) ?_ 0 _ rfl; (with_reducible repeat (first | refine blk_drewN ?_ _ | refine blk_drew ?_ | refine blk_alloc ?_ _)); exact BK326.out)) (below_size (by repeat (first | (with_reducible first | exact HB.out | apply below_alloc | apply pw_below_drewN | apply below_drew1 | refine below_set ?_ GE326.out) | exact HB.out)))); have n3_ := Aside0.mk (blk_below (g := gb326) (o := .cells #[.int .i64 ((rd_T32 t320 x159_6).f0), .int .i64 ((rd_T32 t320 x159_6).f1), .int .i64 ((rd_T32 t320 x159_6).f2), .int .i64 ((rd_T32 t320 x159_6).f3)] 32 (0, 0)) (by (with_reducible repeat (first | refine blk_drewN ?_ _ | refine blk_drew ?_ | refine blk_alloc ?_ _)); refine blk_put (cs := #[.int .i64 ((rd_T32 t320 x159_6).f0), .int .i64 ((rd_T32 t320 x159_6).f1), .int .i64 ((rd_T32 t320 x159_6).f2), .int .i64 0]) ?_ 3 _ rfl; (with_reducible repeat (first | refine blk_drewN ?_ _ | refine blk_drew ?_ | refine blk_alloc ?_ _)); refine blk_put (cs := #[.int .i64 ((rd_T32 t320 x159_6).f0), .int .i64 ((rd_T32 t320 x159_6).f1), .int .i64 0, .int .i64 0]) ?_ 2 _ rfl; (with_reducible repeat (first | refine blk_drewN ?_ _ | refine blk_drew ?_ | refine blk_alloc ?_ _)); refine blk_put (cs := #[.int .i64 ((rd_T32 t320 x159_6).f0), .int .i64 0, .int .i64 0, .int .i64 0]) ?_ 1 _ rfl; (with_reducible repeat (first | refine blk_drewN ?_ _ | refine blk_drew ?_ | refine blk_alloc ?_ _)); refine blk_put (cs := #[.int .i64 0, .int .i64 0, .int .i64 0, .int .i64 0]) ?_ 0 _ rfl; (with_reducible repeat (first | refine blk_drewN ?_ _ | refine blk_drew ?_ | refine blk_alloc ?_ _)); exact BK326.out) hb); have n4_ := Aside0.mk (below_step (by repeat (first | (with_reducible first | exact HB.out | apply below_alloc | apply pw_below_drewN | apply below_drew1 | refine below_set ?_ GE326.out) | exact HB.out)) hb); clear HO_10; clear HO_157; clear BK326; clear HB; have HO_10 := n0_; have HO_157 := n1_; have HO329 := n2_; have BK326 := n3_; have HB := n4_; clear n0_ n1_ n2_ n3_ n4_; (try clear hb); (try clear hb2); (try clear hk); (try clear hi); (try clear ho0); obtain ⟨Ao80, co80, eo80⟩ := Kd.R_slice HO329.out; subst eo80))
                         repeat (go_quiet (fail); try go_wp2)
                         go_loopg [18, 168] k6 (fun kq v18 v168 w' => ∃ (x18_7 : Int) (x168_7 : Int), v18 = .int .i64 x18_7 ∧ v168 = .int .i64 x168_7 ∧ Aside0 (mootlaw4_BackTells.l2 kq l0 l1 a3 t311 x12_5 x13_5 x18_7 t320 (t320.length : Int) x159_6 t327 (t327.length : Int) x168_7 ((rd_T32 t320 x159_6).f0) ((rd_T32 t320 x159_6).f1) ((rd_T32 t320 x159_6).f2) ((rd_T32 t320 x159_6).f3) = some r) ∧ Aside0 (kq ≤ k6) ∧ Aside0 (Kd.R k32 32 w' w.heap.size (fun k_ => some k_ ≠ ((.slice (some ad325) t320.length co72) : Value).ownBlock ∧ some k_ ≠ ((.slice Ao80 t327.length co80) : Value).ownBlock ∧ k_ ≠ gb326) (.slice Ao33 t311.length co33) t311) ∧ Aside0 (Kd.R k32 32 w' w.heap.size (fun k_ => some k_ ≠ ((.slice Ao33 t311.length co33) : Value).ownBlock ∧ some k_ ≠ ((.slice Ao80 t327.length co80) : Value).ownBlock ∧ k_ ≠ gb326) (.slice (some ad325) t320.length co72) t320) ∧ Aside0 (Kd.R k32 32 w' w.heap.size (fun k_ => some k_ ≠ ((.slice Ao33 t311.length co33) : Value).ownBlock ∧ some k_ ≠ ((.slice (some ad325) t320.length co72) : Value).ownBlock ∧ k_ ≠ gb326) (.slice Ao80 t327.length co80) t327) ∧ Aside0 (w'.heap[gb326]? = some (.cells #[.int .i64 ((rd_T32 t320 x159_6).f0), .int .i64 ((rd_T32 t320 x159_6).f1), .int .i64 ((rd_T32 t320 x159_6).f2), .int .i64 ((rd_T32 t320 x159_6).f3)] 32 (0, 0))) ∧ Aside0 (Below w.heap.size w w'))
                         case atStart => exact ⟨(0), (0), (by first | rfl | (simp; done) | (simp [*]; done)), (by first | rfl | (simp; done) | (simp [*]; done)), H', ⟨Nat.le_refl _⟩, ⟨by (with_reducible repeat (first | apply Kd.R_alloc | apply Kd.R_drewN | apply Kd.R_drew)); exact Kd.R_mono HO_10.out (fun _ hk => ⟨hk.1.1, ⟨hk.2, hk.1.2⟩⟩)⟩, ⟨by (with_reducible repeat (first | apply Kd.R_alloc | apply Kd.R_drewN | apply Kd.R_drew)); exact Kd.R_mono HO_157.out (fun _ hk => ⟨hk.1.1, ⟨hk.2, hk.1.2⟩⟩)⟩, ⟨by (with_reducible repeat (first | apply Kd.R_alloc | apply Kd.R_drewN | apply Kd.R_drew)); exact Kd.R_mono HO329.out (fun _ hk => ⟨hk.1.1.2, ⟨hk.1.2, hk.2⟩⟩)⟩, ⟨by (with_reducible repeat (first | refine blk_drewN ?_ _ | refine blk_drew ?_ | refine blk_alloc ?_ _)); exact BK326.out⟩, ⟨by repeat (first | (with_reducible first | exact HB.out | apply below_alloc | apply pw_below_drewN | apply below_drew1 | refine below_set ?_ GE326.out) | exact HB.out)⟩⟩
                         case round =>
                          clear H'
                          try clear c1
                          try clear c2
                          try clear p2
                          try clear c3
                          try clear p3
                          try clear q3
                          try clear hx3
                          try clear c4
                          try clear c5
                          try clear c6
                          try clear p6
                          try clear c7
                          try clear c12
                          try clear c12b0 c12b1
                          try clear c19
                          try clear c21
                          try clear c21b0 c21b1
                          try clear c25
                          try clear c25b0 c25b1
                          try clear c26
                          try clear c26b0
                          try clear c28
                          try clear c30
                          try clear c30b0 c30b1
                          try clear c31
                          try clear c31b0 c31b1
                          try clear p31
                          try clear q31
                          try clear hx31
                          try clear p32
                          try clear q32
                          try clear hx32
                          try clear c34
                          try clear c34b0
                          try clear c35
                          try clear c35b0
                          try clear c36
                          try clear c36b0
                          try clear c40
                          try clear c40b0 c40b1
                          try clear c42
                          try clear c42b0 c42b1
                          try clear c43
                          try clear c43b0
                          try clear c45
                          try clear c45b0
                          try clear c46
                          try clear c46b0
                          try clear c47
                          try clear c47b0
                          try clear c49
                          try clear c49b0 c49b1
                          try clear c54
                          try clear c56
                          try clear c56b0 c56b1
                          try clear c59
                          try clear c60
                          try clear c60b0 c60b1
                          try clear c61
                          try clear c61b0
                          try clear p64
                          try clear c65
                          try clear c65b0 c65b1
                          try clear c66
                          try clear c66b0
                          try clear c73
                          try clear c73b0
                          try clear c74
                          try clear c74b0
                          try clear c75
                          try clear c75b0
                          try clear hcz39_0 hcz39_1 hcz39_2 hcz39_3
                          try clear hcz41_0 hcz41_1 hcz41_2 hcz41_3
                          try clear hcz48_0 hcz48_1 hcz48_2 hcz48_3
                          try clear hcz50_0 hcz50_1 hcz50_2 hcz50_3
                          try clear hcz51_0 hcz51_1 hcz51_2 hcz51_3
                          try clear hcz52_0 hcz52_1 hcz52_2 hcz52_3
                          try clear hcz53_0 hcz53_1 hcz53_2 hcz53_3
                          try clear hcz57_0 hcz57_1 hcz57_2 hcz57_3
                          try clear hcz58_0 hcz58_1 hcz58_2 hcz58_3
                          try clear hcz62_0 hcz62_1 hcz62_2 hcz62_3
                          try clear hcz63_0 hcz63_1 hcz63_2 hcz63_3
                          try clear hcz64_0 hcz64_1 hcz64_2 hcz64_3
                          try clear hcz67_0 hcz67_1 hcz67_2 hcz67_3
                          try clear hcz68_0 hcz68_1 hcz68_2 hcz68_3
                          try clear hcz69_0 hcz69_1 hcz69_2 hcz69_3
                          try clear hcz78_0 hcz78_1 hcz78_2 hcz78_3
                          try clear hfz39_0 hfz39_1 hfz39_2 hfz39_3
                          try clear hfz41_0 hfz41_1 hfz41_2 hfz41_3
                          try clear hfz48_0 hfz48_1 hfz48_2 hfz48_3
                          try clear hfz50_0 hfz50_1 hfz50_2 hfz50_3
                          try clear hfz51_0 hfz51_1 hfz51_2 hfz51_3
                          try clear hfz52_0 hfz52_1 hfz52_2 hfz52_3
                          try clear hfz53_0 hfz53_1 hfz53_2 hfz53_3
                          try clear hfz57_0 hfz57_1 hfz57_2 hfz57_3
                          try clear hfz58_0 hfz58_1 hfz58_2 hfz58_3
                          try clear hfz62_0 hfz62_1 hfz62_2 hfz62_3
                          try clear hfz63_0 hfz63_1 hfz63_2 hfz63_3
                          try clear hfz64_0 hfz64_1 hfz64_2 hfz64_3
                          try clear hfz67_0 hfz67_1 hfz67_2 hfz67_3
                          try clear hfz68_0 hfz68_1 hfz68_2 hfz68_3
                          try clear hfz69_0 hfz69_1 hfz69_2 hfz69_3
                          try clear hfz78_0 hfz78_1 hfz78_2 hfz78_3
                          try clear hx315_0
                          try clear hx315_1
                          try clear hx315_2
                          try clear hx315_3
                          try clear hx317_0
                          try clear hx317_1
                          try clear hx317_2
                          try clear hx317_3
                          try clear hx318_0
                          try clear hx318_1
                          try clear hx318_2
                          try clear hx318_3
                          try clear hx319_0
                          try clear hx319_1
                          try clear hx319_2
                          try clear hx319_3
                          try clear hx325_0
                          try clear hx325_1
                          try clear hx325_2
                          try clear hx325_3
                          try clear p2
                          try clear p3
                          try clear p31
                          try clear p315
                          try clear p317
                          try clear p318
                          try clear p319
                          try clear p325
                          try clear p6
                          try clear p64
                          try clear q3
                          try clear q31
                          try clear q315
                          try clear q317
                          try clear q318
                          try clear q319
                          try clear q325
                          obtain ⟨x18_7, x168_7, rfl, rfl, HA, HK7, HO_10, HO_157, HO_166, BK326, HB⟩ := hrel
                          cases gk with
                          | zero => exact absurd HA.out (by simp [mootlaw4_BackTells.l2])
                          | succ k7 =>
                           have H := HA.out
                           clear HA
                           simp only [mootlaw4_BackTells.l2] at H
                           by_cases c81 : x168_7 < (t327.length : Int)
                           ·
                            rw [if_pos c81] at H
                            have c81b0 : decide (x168_7 < (t327.length : Int)) = true := decide_eq_true c81
                            clear c81
                            by_cases c82 : 0 ≤ x168_7
                            rotate_left
                            ·
                             rw [if_neg c82] at H
                             exact absurd H (by simp)
                            rw [if_pos c82] at H
                            have c82b0 : decide (0 ≤ x168_7) = true := decide_eq_true c82
                            clear c82
                            by_cases c83 : x168_7 < (t327.length : Int)
                            rotate_left
                            ·
                             rw [if_neg c83] at H
                             exact absurd H (by simp)
                            rw [if_pos c83] at H
                            have c83b0 : decide (x168_7 < (t327.length : Int)) = true := decide_eq_true c83
                            clear c83
                            by_cases c84 : ((rd_T32 t327 x168_7).f0) = ((rd_T32 t320 x159_6).f0)
                            ·
                             rw [if_pos c84] at H
                             have c84b0 : (((rd_T32 t327 x168_7).f0) == ((rd_T32 t320 x159_6).f0)) = true := beq_iff_eq.mpr c84
                             have c84b1 : (((rd_T32 t327 x168_7).f0) != ((rd_T32 t320 x159_6).f0)) = false := bne_eq_false_iff_eq.mpr c84
                             clear c84
                             by_cases c85 : ((rd_T32 t327 x168_7).f1) = ((rd_T32 t320 x159_6).f1)
                             ·
                              rw [if_pos c85] at H
                              have c85b0 : (((rd_T32 t327 x168_7).f1) == ((rd_T32 t320 x159_6).f1)) = true := beq_iff_eq.mpr c85
                              have c85b1 : (((rd_T32 t327 x168_7).f1) != ((rd_T32 t320 x159_6).f1)) = false := bne_eq_false_iff_eq.mpr c85
                              clear c85
                              have H' := Aside0.mk H
                              clear H
                              have p330 : 0 ≤ (x168_7 : Int) := of_decide_eq_true (by first | (with_reducible assumption) | assumption)
                              have q330 : x168_7 < (t327.length : Int) := of_decide_eq_true (by first | (with_reducible assumption) | assumption)
                              obtain ⟨ad330, e330, hx330_0, hx330_1, hx330_2, hx330_3⟩ := at_T32 (Kd.R_reads' HO_166.out).2.2 x168_7 p330 q330
                              cases e330
                              replace p330 := eq_true p330
                              replace q330 := eq_true q330
                              go_wp2_with (first | ((with_reducible refine gate_dst (N := 20) rfl ?_); (try (refine gate_guard (by rfl) ?_; dsimp only)); refine box_event ?hg (N := 20) ?hd (cs := #[.int .i64 0, .int .i64 0, .int .i64 0, .int .i64 0]) (t := 32) ?hr ?_; (case hd => rfl); (case hg => rfl); (case hr => first | (go_simp; done) | (go_simp; rfl)); intro gb331 hg w86 hbox hb; have n0_ := Aside0.mk (Kd.R_below (Kd.R_elderB (by (with_reducible repeat (first | apply Kd.R_alloc | apply Kd.R_drewN | apply Kd.R_drew)); exact HO_10.out) gb331 (Nat.le_of_eq hg.symm)) hb); have n1_ := Aside0.mk (Kd.R_below (Kd.R_elderB (by (with_reducible repeat (first | apply Kd.R_alloc | apply Kd.R_drewN | apply Kd.R_drew)); exact HO_157.out) gb331 (Nat.le_of_eq hg.symm)) hb); have n2_ := Aside0.mk (Kd.R_below (Kd.R_elderB (by (with_reducible repeat (first | apply Kd.R_alloc | apply Kd.R_drewN | apply Kd.R_drew)); exact HO_166.out) gb331 (Nat.le_of_eq hg.symm)) hb); have n3_ := Aside0.mk (blk_below (g := gb326) (o := .cells #[.int .i64 ((rd_T32 t320 x159_6).f0), .int .i64 ((rd_T32 t320 x159_6).f1), .int .i64 ((rd_T32 t320 x159_6).f2), .int .i64 ((rd_T32 t320 x159_6).f3)] 32 (0, 0)) (by (with_reducible repeat (first | refine blk_drewN ?_ _ | refine blk_drew ?_ | refine blk_alloc ?_ _)); exact BK326.out) hb); have n4_ := Aside0.mk (below_step (by repeat (first | (with_reducible first | exact HB.out | apply below_alloc | apply pw_below_drewN | apply below_drew1 | refine below_set ?_ GE326.out) | exact HB.out)) hb); have n5_ := Aside0.mk (hbox); have n6_ := Aside0.mk ((by rw [hg]; exact (below_size (by repeat (first | (with_reducible first | exact HB.out | apply below_alloc | apply pw_below_drewN | apply below_drew1 | refine below_set ?_ GE326.out) | exact HB.out))) : w.heap.size ≤ gb331)); have n7_ := Aside0.mk ((by rw [hg]; exact (below_size (by repeat (first | (with_reducible first | exact HB.out | apply below_alloc | apply pw_below_drewN | apply below_drew1 | refine below_set ?_ GE326.out) | exact HB.out))) : w.heap.size ≤ gb331)); have n8_ := Aside0.mk ((by rw [hg]; exact Nat.ne_of_lt (blk_lt (g := gb326) (o := .cells #[.int .i64 ((rd_T32 t320 x159_6).f0), .int .i64 ((rd_T32 t320 x159_6).f1), .int .i64 ((rd_T32 t320 x159_6).f2), .int .i64 ((rd_T32 t320 x159_6).f3)] 32 (0, 0)) (by (with_reducible repeat (first | refine blk_drewN ?_ _ | refine blk_drew ?_ | refine blk_alloc ?_ _)); exact BK326.out)) : gb326 ≠ gb331)); have n9_ := Aside0.mk ((by rw [hg]; exact Nat.ne_of_gt (blk_lt (g := gb326) (o := .cells #[.int .i64 ((rd_T32 t320 x159_6).f0), .int .i64 ((rd_T32 t320 x159_6).f1), .int .i64 ((rd_T32 t320 x159_6).f2), .int .i64 ((rd_T32 t320 x159_6).f3)] 32 (0, 0)) (by (with_reducible repeat (first | refine blk_drewN ?_ _ | refine blk_drew ?_ | refine blk_alloc ?_ _)); exact BK326.out)) : gb331 ≠ gb326)); clear HO_10; clear HO_157; clear HO_166; clear BK326; clear HB; have HO_10 := n0_; have HO_157 := n1_; have HO_166 := n2_; have BK326 := n3_; have HB := n4_; have BK331 := n5_; have GW331 := n6_; have GE331 := n7_; have NB326_331 := n8_; have NB331_326 := n9_; clear n0_ n1_ n2_ n3_ n4_ n5_ n6_ n7_ n8_ n9_; clear hb hbox hg; have hnb87 := NB331_326.out; have hnc87 := NB326_331.out; have hcz88_0 : w86.cell? ⟨gb331, 0, none⟩ = some (.int .i64 0) := (blk_cell BK331.out 0).trans rfl; have hcz88_1 : w86.cell? ⟨gb331, 1, none⟩ = some (.int .i64 0) := (blk_cell BK331.out 1).trans rfl; have hcz88_2 : w86.cell? ⟨gb331, 2, none⟩ = some (.int .i64 0) := (blk_cell BK331.out 2).trans rfl; have hcz88_3 : w86.cell? ⟨gb331, 3, none⟩ = some (.int .i64 0) := (blk_cell BK331.out 3).trans rfl; have hfz88_0 := blk_frozen BK331.out 0; have hfz88_1 := blk_frozen BK331.out 1; have hfz88_2 := blk_frozen BK331.out 2; have hfz88_3 := blk_frozen BK331.out 3; have hcz89_0 : w86.cell? ⟨gb326, 0, none⟩ = some (.int .i64 ((rd_T32 t320 x159_6).f0)) := (blk_cell BK326.out 0).trans rfl; have hcz89_1 : w86.cell? ⟨gb326, 1, none⟩ = some (.int .i64 ((rd_T32 t320 x159_6).f1)) := (blk_cell BK326.out 1).trans rfl; have hcz89_2 : w86.cell? ⟨gb326, 2, none⟩ = some (.int .i64 ((rd_T32 t320 x159_6).f2)) := (blk_cell BK326.out 2).trans rfl; have hcz89_3 : w86.cell? ⟨gb326, 3, none⟩ = some (.int .i64 ((rd_T32 t320 x159_6).f3)) := (blk_cell BK326.out 3).trans rfl; have hfz89_0 := blk_frozen BK326.out 0; have hfz89_1 := blk_frozen BK326.out 1; have hfz89_2 := blk_frozen BK326.out 2; have hfz89_3 := blk_frozen BK326.out 3))
                              repeat (go_quiet (fail); try go_wp2)
                              go_roundg k7
                              case measure => have := HJ7.out; have := HJ19.out; have := HJ23.out; have := HJ26.out; have := HK5.out; have := HK6.out; have := HK7.out; omega
                              case rel => exact ⟨(wrap64 (x18_7 + ((rd_T32 t327 x168_7).f2))), (wrap64 (x168_7 + 1)), (by first | rfl | (simp; done) | (simp [*]; done)), (by first | rfl | (simp; done) | (simp [*]; done)), H', ⟨by have := HJ7.out; have := HJ19.out; have := HJ23.out; have := HJ26.out; have := HK5.out; have := HK6.out; have := HK7.out; omega⟩, ⟨by (with_reducible repeat (first | apply Kd.R_alloc | apply Kd.R_drewN | apply Kd.R_drew)); exact Kd.R_mono (Kd.R_far (p := ⟨gb331, 3, none⟩) (Kd.R_far (p := ⟨gb331, 2, none⟩) (Kd.R_far (p := ⟨gb331, 1, none⟩) (Kd.R_far (p := ⟨gb331, 0, none⟩) (Kd.R_mono HO_10.out (fun k_ hk => (⟨hk, hk.2⟩ : _ ∧ k_ ≠ gb331))) (fun _ hk => hk.2) (.int .i64 ((rd_T32 t327 x168_7).f0))) (fun _ hk => hk.2) (.int .i64 ((rd_T32 t327 x168_7).f1))) (fun _ hk => hk.2) (.int .i64 ((rd_T32 t327 x168_7).f2))) (fun _ hk => hk.2) (.int .i64 ((rd_T32 t327 x168_7).f3))) (fun _ hk => ⟨hk.1.1.1, ⟨hk.1.1.2.1, hk.1.1.2.2⟩⟩)⟩, ⟨by (with_reducible repeat (first | apply Kd.R_alloc | apply Kd.R_drewN | apply Kd.R_drew)); exact Kd.R_mono (Kd.R_far (p := ⟨gb331, 3, none⟩) (Kd.R_far (p := ⟨gb331, 2, none⟩) (Kd.R_far (p := ⟨gb331, 1, none⟩) (Kd.R_far (p := ⟨gb331, 0, none⟩) (Kd.R_mono HO_157.out (fun k_ hk => (⟨hk, hk.2⟩ : _ ∧ k_ ≠ gb331))) (fun _ hk => hk.2) (.int .i64 ((rd_T32 t327 x168_7).f0))) (fun _ hk => hk.2) (.int .i64 ((rd_T32 t327 x168_7).f1))) (fun _ hk => hk.2) (.int .i64 ((rd_T32 t327 x168_7).f2))) (fun _ hk => hk.2) (.int .i64 ((rd_T32 t327 x168_7).f3))) (fun _ hk => ⟨hk.1.1.1, ⟨hk.1.1.2.1, hk.1.1.2.2⟩⟩)⟩, ⟨by (with_reducible repeat (first | apply Kd.R_alloc | apply Kd.R_drewN | apply Kd.R_drew)); exact Kd.R_mono (Kd.R_far (p := ⟨gb331, 3, none⟩) (Kd.R_far (p := ⟨gb331, 2, none⟩) (Kd.R_far (p := ⟨gb331, 1, none⟩) (Kd.R_far (p := ⟨gb331, 0, none⟩) (Kd.R_mono HO_166.out (fun k_ hk => (⟨hk, hk.2⟩ : _ ∧ k_ ≠ gb331))) (fun _ hk => hk.2) (.int .i64 ((rd_T32 t327 x168_7).f0))) (fun _ hk => hk.2) (.int .i64 ((rd_T32 t327 x168_7).f1))) (fun _ hk => hk.2) (.int .i64 ((rd_T32 t327 x168_7).f2))) (fun _ hk => hk.2) (.int .i64 ((rd_T32 t327 x168_7).f3))) (fun _ hk => ⟨hk.1.1.1, ⟨hk.1.1.2.1, hk.1.1.2.2⟩⟩)⟩, ⟨by (with_reducible repeat (first | refine blk_drewN ?_ _ | refine blk_drew ?_ | refine blk_alloc ?_ _)); refine blk_far ?_ NB326_331.out _; (with_reducible repeat (first | refine blk_drewN ?_ _ | refine blk_drew ?_ | refine blk_alloc ?_ _)); refine blk_far ?_ NB326_331.out _; (with_reducible repeat (first | refine blk_drewN ?_ _ | refine blk_drew ?_ | refine blk_alloc ?_ _)); refine blk_far ?_ NB326_331.out _; (with_reducible repeat (first | refine blk_drewN ?_ _ | refine blk_drew ?_ | refine blk_alloc ?_ _)); refine blk_far ?_ NB326_331.out _; (with_reducible repeat (first | refine blk_drewN ?_ _ | refine blk_drew ?_ | refine blk_alloc ?_ _)); exact BK326.out⟩, ⟨by repeat (first | (with_reducible first | exact HB.out | apply below_alloc | apply pw_below_drewN | apply below_drew1 | refine below_set ?_ GE326.out | refine below_set ?_ GE331.out) | exact HB.out)⟩⟩
                             ·
                              rw [if_neg c85] at H
                              have c85b0 : (((rd_T32 t327 x168_7).f1) == ((rd_T32 t320 x159_6).f1)) = false := beq_eq_false_iff_ne.mpr c85
                              have c85b1 : (((rd_T32 t327 x168_7).f1) != ((rd_T32 t320 x159_6).f1)) = true := bne_iff_ne.mpr c85
                              have H' := Aside0.mk H
                              clear H
                              have p330 : 0 ≤ (x168_7 : Int) := of_decide_eq_true (by first | (with_reducible assumption) | assumption)
                              have q330 : x168_7 < (t327.length : Int) := of_decide_eq_true (by first | (with_reducible assumption) | assumption)
                              obtain ⟨ad330, e330, hx330_0, hx330_1, hx330_2, hx330_3⟩ := at_T32 (Kd.R_reads' HO_166.out).2.2 x168_7 p330 q330
                              cases e330
                              replace p330 := eq_true p330
                              replace q330 := eq_true q330
                              go_wp2_with (first | ((with_reducible refine gate_dst (N := 20) rfl ?_); (try (refine gate_guard (by rfl) ?_; dsimp only)); refine box_event ?hg (N := 20) ?hd (cs := #[.int .i64 0, .int .i64 0, .int .i64 0, .int .i64 0]) (t := 32) ?hr ?_; (case hd => rfl); (case hg => rfl); (case hr => first | (go_simp; done) | (go_simp; rfl)); intro gb331 hg w90 hbox hb; have n0_ := Aside0.mk (Kd.R_below (Kd.R_elderB (by (with_reducible repeat (first | apply Kd.R_alloc | apply Kd.R_drewN | apply Kd.R_drew)); exact HO_10.out) gb331 (Nat.le_of_eq hg.symm)) hb); have n1_ := Aside0.mk (Kd.R_below (Kd.R_elderB (by (with_reducible repeat (first | apply Kd.R_alloc | apply Kd.R_drewN | apply Kd.R_drew)); exact HO_157.out) gb331 (Nat.le_of_eq hg.symm)) hb); have n2_ := Aside0.mk (Kd.R_below (Kd.R_elderB (by (with_reducible repeat (first | apply Kd.R_alloc | apply Kd.R_drewN | apply Kd.R_drew)); exact HO_166.out) gb331 (Nat.le_of_eq hg.symm)) hb); have n3_ := Aside0.mk (blk_below (g := gb326) (o := .cells #[.int .i64 ((rd_T32 t320 x159_6).f0), .int .i64 ((rd_T32 t320 x159_6).f1), .int .i64 ((rd_T32 t320 x159_6).f2), .int .i64 ((rd_T32 t320 x159_6).f3)] 32 (0, 0)) (by (with_reducible repeat (first | refine blk_drewN ?_ _ | refine blk_drew ?_ | refine blk_alloc ?_ _)); exact BK326.out) hb); have n4_ := Aside0.mk (below_step (by repeat (first | (with_reducible first | exact HB.out | apply below_alloc | apply pw_below_drewN | apply below_drew1 | refine below_set ?_ GE326.out) | exact HB.out)) hb); have n5_ := Aside0.mk (hbox); have n6_ := Aside0.mk ((by rw [hg]; exact (below_size (by repeat (first | (with_reducible first | exact HB.out | apply below_alloc | apply pw_below_drewN | apply below_drew1 | refine below_set ?_ GE326.out) | exact HB.out))) : w.heap.size ≤ gb331)); have n7_ := Aside0.mk ((by rw [hg]; exact (below_size (by repeat (first | (with_reducible first | exact HB.out | apply below_alloc | apply pw_below_drewN | apply below_drew1 | refine below_set ?_ GE326.out) | exact HB.out))) : w.heap.size ≤ gb331)); have n8_ := Aside0.mk ((by rw [hg]; exact Nat.ne_of_lt (blk_lt (g := gb326) (o := .cells #[.int .i64 ((rd_T32 t320 x159_6).f0), .int .i64 ((rd_T32 t320 x159_6).f1), .int .i64 ((rd_T32 t320 x159_6).f2), .int .i64 ((rd_T32 t320 x159_6).f3)] 32 (0, 0)) (by (with_reducible repeat (first | refine blk_drewN ?_ _ | refine blk_drew ?_ | refine blk_alloc ?_ _)); exact BK326.out)) : gb326 ≠ gb331)); have n9_ := Aside0.mk ((by rw [hg]; exact Nat.ne_of_gt (blk_lt (g := gb326) (o := .cells #[.int .i64 ((rd_T32 t320 x159_6).f0), .int .i64 ((rd_T32 t320 x159_6).f1), .int .i64 ((rd_T32 t320 x159_6).f2), .int .i64 ((rd_T32 t320 x159_6).f3)] 32 (0, 0)) (by (with_reducible repeat (first | refine blk_drewN ?_ _ | refine blk_drew ?_ | refine blk_alloc ?_ _)); exact BK326.out)) : gb331 ≠ gb326)); clear HO_10; clear HO_157; clear HO_166; clear BK326; clear HB; have HO_10 := n0_; have HO_157 := n1_; have HO_166 := n2_; have BK326 := n3_; have HB := n4_; have BK331 := n5_; have GW331 := n6_; have GE331 := n7_; have NB326_331 := n8_; have NB331_326 := n9_; clear n0_ n1_ n2_ n3_ n4_ n5_ n6_ n7_ n8_ n9_; clear hb hbox hg; have hnb91 := NB331_326.out; have hnc91 := NB326_331.out; have hcz92_0 : w90.cell? ⟨gb331, 0, none⟩ = some (.int .i64 0) := (blk_cell BK331.out 0).trans rfl; have hcz92_1 : w90.cell? ⟨gb331, 1, none⟩ = some (.int .i64 0) := (blk_cell BK331.out 1).trans rfl; have hcz92_2 : w90.cell? ⟨gb331, 2, none⟩ = some (.int .i64 0) := (blk_cell BK331.out 2).trans rfl; have hcz92_3 : w90.cell? ⟨gb331, 3, none⟩ = some (.int .i64 0) := (blk_cell BK331.out 3).trans rfl; have hfz92_0 := blk_frozen BK331.out 0; have hfz92_1 := blk_frozen BK331.out 1; have hfz92_2 := blk_frozen BK331.out 2; have hfz92_3 := blk_frozen BK331.out 3; have hcz93_0 : w90.cell? ⟨gb326, 0, none⟩ = some (.int .i64 ((rd_T32 t320 x159_6).f0)) := (blk_cell BK326.out 0).trans rfl; have hcz93_1 : w90.cell? ⟨gb326, 1, none⟩ = some (.int .i64 ((rd_T32 t320 x159_6).f1)) := (blk_cell BK326.out 1).trans rfl; have hcz93_2 : w90.cell? ⟨gb326, 2, none⟩ = some (.int .i64 ((rd_T32 t320 x159_6).f2)) := (blk_cell BK326.out 2).trans rfl; have hcz93_3 : w90.cell? ⟨gb326, 3, none⟩ = some (.int .i64 ((rd_T32 t320 x159_6).f3)) := (blk_cell BK326.out 3).trans rfl; have hfz93_0 := blk_frozen BK326.out 0; have hfz93_1 := blk_frozen BK326.out 1; have hfz93_2 := blk_frozen BK326.out 2; have hfz93_3 := blk_frozen BK326.out 3))
                              repeat (go_quiet (fail); try go_wp2)
                              go_roundg k7
                              case measure => have := HJ7.out; have := HJ19.out; have := HJ23.out; have := HJ26.out; have := HK5.out; have := HK6.out; have := HK7.out; omega
                              case rel => exact ⟨(x18_7), (wrap64 (x168_7 + 1)), (by first | rfl | (simp; done) | (simp [*]; done)), (by first | rfl | (simp; done) | (simp [*]; done)), H', ⟨by have := HJ7.out; have := HJ19.out; have := HJ23.out; have := HJ26.out; have := HK5.out; have := HK6.out; have := HK7.out; omega⟩, ⟨by (with_reducible repeat (first | apply Kd.R_alloc | apply Kd.R_drewN | apply Kd.R_drew)); exact Kd.R_mono (Kd.R_far (p := ⟨gb331, 3, none⟩) (Kd.R_far (p := ⟨gb331, 2, none⟩) (Kd.R_far (p := ⟨gb331, 1, none⟩) (Kd.R_far (p := ⟨gb331, 0, none⟩) (Kd.R_mono HO_10.out (fun k_ hk => (⟨hk, hk.2⟩ : _ ∧ k_ ≠ gb331))) (fun _ hk => hk.2) (.int .i64 ((rd_T32 t327 x168_7).f0))) (fun _ hk => hk.2) (.int .i64 ((rd_T32 t327 x168_7).f1))) (fun _ hk => hk.2) (.int .i64 ((rd_T32 t327 x168_7).f2))) (fun _ hk => hk.2) (.int .i64 ((rd_T32 t327 x168_7).f3))) (fun _ hk => ⟨hk.1.1.1, ⟨hk.1.1.2.1, hk.1.1.2.2⟩⟩)⟩, ⟨by (with_reducible repeat (first | apply Kd.R_alloc | apply Kd.R_drewN | apply Kd.R_drew)); exact Kd.R_mono (Kd.R_far (p := ⟨gb331, 3, none⟩) (Kd.R_far (p := ⟨gb331, 2, none⟩) (Kd.R_far (p := ⟨gb331, 1, none⟩) (Kd.R_far (p := ⟨gb331, 0, none⟩) (Kd.R_mono HO_157.out (fun k_ hk => (⟨hk, hk.2⟩ : _ ∧ k_ ≠ gb331))) (fun _ hk => hk.2) (.int .i64 ((rd_T32 t327 x168_7).f0))) (fun _ hk => hk.2) (.int .i64 ((rd_T32 t327 x168_7).f1))) (fun _ hk => hk.2) (.int .i64 ((rd_T32 t327 x168_7).f2))) (fun _ hk => hk.2) (.int .i64 ((rd_T32 t327 x168_7).f3))) (fun _ hk => ⟨hk.1.1.1, ⟨hk.1.1.2.1, hk.1.1.2.2⟩⟩)⟩, ⟨by (with_reducible repeat (first | apply Kd.R_alloc | apply Kd.R_drewN | apply Kd.R_drew)); exact Kd.R_mono (Kd.R_far (p := ⟨gb331, 3, none⟩) (Kd.R_far (p := ⟨gb331, 2, none⟩) (Kd.R_far (p := ⟨gb331, 1, none⟩) (Kd.R_far (p := ⟨gb331, 0, none⟩) (Kd.R_mono HO_166.out (fun k_ hk => (⟨hk, hk.2⟩ : _ ∧ k_ ≠ gb331))) (fun _ hk => hk.2) (.int .i64 ((rd_T32 t327 x168_7).f0))) (fun _ hk => hk.2) (.int .i64 ((rd_T32 t327 x168_7).f1))) (fun _ hk => hk.2) (.int .i64 ((rd_T32 t327 x168_7).f2))) (fun _ hk => hk.2) (.int .i64 ((rd_T32 t327 x168_7).f3))) (fun _ hk => ⟨hk.1.1.1, ⟨hk.1.1.2.1, hk.1.1.2.2⟩⟩)⟩, ⟨by (with_reducible repeat (first | refine blk_drewN ?_ _ | refine blk_drew ?_ | refine blk_alloc ?_ _)); refine blk_far ?_ NB326_331.out _; (with_reducible repeat (first | refine blk_drewN ?_ _ | refine blk_drew ?_ | refine blk_alloc ?_ _)); refine blk_far ?_ NB326_331.out _; (with_reducible repeat (first | refine blk_drewN ?_ _ | refine blk_drew ?_ | refine blk_alloc ?_ _)); refine blk_far ?_ NB326_331.out _; (with_reducible repeat (first | refine blk_drewN ?_ _ | refine blk_drew ?_ | refine blk_alloc ?_ _)); refine blk_far ?_ NB326_331.out _; (with_reducible repeat (first | refine blk_drewN ?_ _ | refine blk_drew ?_ | refine blk_alloc ?_ _)); exact BK326.out⟩, ⟨by repeat (first | (with_reducible first | exact HB.out | apply below_alloc | apply pw_below_drewN | apply below_drew1 | refine below_set ?_ GE326.out | refine below_set ?_ GE331.out) | exact HB.out)⟩⟩
                            ·
                             rw [if_neg c84] at H
                             have c84b0 : (((rd_T32 t327 x168_7).f0) == ((rd_T32 t320 x159_6).f0)) = false := beq_eq_false_iff_ne.mpr c84
                             have c84b1 : (((rd_T32 t327 x168_7).f0) != ((rd_T32 t320 x159_6).f0)) = true := bne_iff_ne.mpr c84
                             have H' := Aside0.mk H
                             clear H
                             have p330 : 0 ≤ (x168_7 : Int) := of_decide_eq_true (by first | (with_reducible assumption) | assumption)
                             have q330 : x168_7 < (t327.length : Int) := of_decide_eq_true (by first | (with_reducible assumption) | assumption)
                             obtain ⟨ad330, e330, hx330_0, hx330_1, hx330_2, hx330_3⟩ := at_T32 (Kd.R_reads' HO_166.out).2.2 x168_7 p330 q330
                             cases e330
                             replace p330 := eq_true p330
                             replace q330 := eq_true q330
                             go_wp2_with (first | ((with_reducible refine gate_dst (N := 20) rfl ?_); (try (refine gate_guard (by rfl) ?_; dsimp only)); refine box_event ?hg (N := 20) ?hd (cs := #[.int .i64 0, .int .i64 0, .int .i64 0, .int .i64 0]) (t := 32) ?hr ?_; (case hd => rfl); (case hg => rfl); (case hr => first | (go_simp; done) | (go_simp; rfl)); intro gb331 hg w94 hbox hb; have n0_ := Aside0.mk (Kd.R_below (Kd.R_elderB (by (with_reducible repeat (first | apply Kd.R_alloc | apply Kd.R_drewN | apply Kd.R_drew)); exact HO_10.out) gb331 (Nat.le_of_eq hg.symm)) hb); have n1_ := Aside0.mk (Kd.R_below (Kd.R_elderB (by (with_reducible repeat (first | apply Kd.R_alloc | apply Kd.R_drewN | apply Kd.R_drew)); exact HO_157.out) gb331 (Nat.le_of_eq hg.symm)) hb); have n2_ := Aside0.mk (Kd.R_below (Kd.R_elderB (by (with_reducible repeat (first | apply Kd.R_alloc | apply Kd.R_drewN | apply Kd.R_drew)); exact HO_166.out) gb331 (Nat.le_of_eq hg.symm)) hb); have n3_ := Aside0.mk (blk_below (g := gb326) (o := .cells #[.int .i64 ((rd_T32 t320 x159_6).f0), .int .i64 ((rd_T32 t320 x159_6).f1), .int .i64 ((rd_T32 t320 x159_6).f2), .int .i64 ((rd_T32 t320 x159_6).f3)] 32 (0, 0)) (by (with_reducible repeat (first | refine blk_drewN ?_ _ | refine blk_drew ?_ | refine blk_alloc ?_ _)); exact BK326.out) hb); have n4_ := Aside0.mk (below_step (by repeat (first | (with_reducible first | exact HB.out | apply below_alloc | apply pw_below_drewN | apply below_drew1 | refine below_set ?_ GE326.out) | exact HB.out)) hb); have n5_ := Aside0.mk (hbox); have n6_ := Aside0.mk ((by rw [hg]; exact (below_size (by repeat (first | (with_reducible first | exact HB.out | apply below_alloc | apply pw_below_drewN | apply below_drew1 | refine below_set ?_ GE326.out) | exact HB.out))) : w.heap.size ≤ gb331)); have n7_ := Aside0.mk ((by rw [hg]; exact (below_size (by repeat (first | (with_reducible first | exact HB.out | apply below_alloc | apply pw_below_drewN | apply below_drew1 | refine below_set ?_ GE326.out) | exact HB.out))) : w.heap.size ≤ gb331)); have n8_ := Aside0.mk ((by rw [hg]; exact Nat.ne_of_lt (blk_lt (g := gb326) (o := .cells #[.int .i64 ((rd_T32 t320 x159_6).f0), .int .i64 ((rd_T32 t320 x159_6).f1), .int .i64 ((rd_T32 t320 x159_6).f2), .int .i64 ((rd_T32 t320 x159_6).f3)] 32 (0, 0)) (by (with_reducible repeat (first | refine blk_drewN ?_ _ | refine blk_drew ?_ | refine blk_alloc ?_ _)); exact BK326.out)) : gb326 ≠ gb331)); have n9_ := Aside0.mk ((by rw [hg]; exact Nat.ne_of_gt (blk_lt (g := gb326) (o := .cells #[.int .i64 ((rd_T32 t320 x159_6).f0), .int .i64 ((rd_T32 t320 x159_6).f1), .int .i64 ((rd_T32 t320 x159_6).f2), .int .i64 ((rd_T32 t320 x159_6).f3)] 32 (0, 0)) (by (with_reducible repeat (first | refine blk_drewN ?_ _ | refine blk_drew ?_ | refine blk_alloc ?_ _)); exact BK326.out)) : gb331 ≠ gb326)); clear HO_10; clear HO_157; clear HO_166; clear BK326; clear HB; have HO_10 := n0_; have HO_157 := n1_; have HO_166 := n2_; have BK326 := n3_; have HB := n4_; have BK331 := n5_; have GW331 := n6_; have GE331 := n7_; have NB326_331 := n8_; have NB331_326 := n9_; clear n0_ n1_ n2_ n3_ n4_ n5_ n6_ n7_ n8_ n9_; clear hb hbox hg; have hnb95 := NB331_326.out; have hnc95 := NB326_331.out; have hcz96_0 : w94.cell? ⟨gb331, 0, none⟩ = some (.int .i64 0) := (blk_cell BK331.out 0).trans rfl; have hcz96_1 : w94.cell? ⟨gb331, 1, none⟩ = some (.int .i64 0) := (blk_cell BK331.out 1).trans rfl; have hcz96_2 : w94.cell? ⟨gb331, 2, none⟩ = some (.int .i64 0) := (blk_cell BK331.out 2).trans rfl; have hcz96_3 : w94.cell? ⟨gb331, 3, none⟩ = some (.int .i64 0) := (blk_cell BK331.out 3).trans rfl; have hfz96_0 := blk_frozen BK331.out 0; have hfz96_1 := blk_frozen BK331.out 1; have hfz96_2 := blk_frozen BK331.out 2; have hfz96_3 := blk_frozen BK331.out 3; have hcz97_0 : w94.cell? ⟨gb326, 0, none⟩ = some (.int .i64 ((rd_T32 t320 x159_6).f0)) := (blk_cell BK326.out 0).trans rfl; have hcz97_1 : w94.cell? ⟨gb326, 1, none⟩ = some (.int .i64 ((rd_T32 t320 x159_6).f1)) := (blk_cell BK326.out 1).trans rfl; have hcz97_2 : w94.cell? ⟨gb326, 2, none⟩ = some (.int .i64 ((rd_T32 t320 x159_6).f2)) := (blk_cell BK326.out 2).trans rfl; have hcz97_3 : w94.cell? ⟨gb326, 3, none⟩ = some (.int .i64 ((rd_T32 t320 x159_6).f3)) := (blk_cell BK326.out 3).trans rfl; have hfz97_0 := blk_frozen BK326.out 0; have hfz97_1 := blk_frozen BK326.out 1; have hfz97_2 := blk_frozen BK326.out 2; have hfz97_3 := blk_frozen BK326.out 3))
                             repeat (go_quiet (fail); try go_wp2)
                             go_roundg k7
                             case measure => have := HJ7.out; have := HJ19.out; have := HJ23.out; have := HJ26.out; have := HK5.out; have := HK6.out; have := HK7.out; omega
                             case rel => exact ⟨(x18_7), (wrap64 (x168_7 + 1)), (by first | rfl | (simp; done) | (simp [*]; done)), (by first | rfl | (simp; done) | (simp [*]; done)), H', ⟨by have := HJ7.out; have := HJ19.out; have := HJ23.out; have := HJ26.out; have := HK5.out; have := HK6.out; have := HK7.out; omega⟩, ⟨by (with_reducible repeat (first | apply Kd.R_alloc | apply Kd.R_drewN | apply Kd.R_drew)); exact Kd.R_mono (Kd.R_far (p := ⟨gb331, 3, none⟩) (Kd.R_far (p := ⟨gb331, 2, none⟩) (Kd.R_far (p := ⟨gb331, 1, none⟩) (Kd.R_far (p := ⟨gb331, 0, none⟩) (Kd.R_mono HO_10.out (fun k_ hk => (⟨hk, hk.2⟩ : _ ∧ k_ ≠ gb331))) (fun _ hk => hk.2) (.int .i64 ((rd_T32 t327 x168_7).f0))) (fun _ hk => hk.2) (.int .i64 ((rd_T32 t327 x168_7).f1))) (fun _ hk => hk.2) (.int .i64 ((rd_T32 t327 x168_7).f2))) (fun _ hk => hk.2) (.int .i64 ((rd_T32 t327 x168_7).f3))) (fun _ hk => ⟨hk.1.1.1, ⟨hk.1.1.2.1, hk.1.1.2.2⟩⟩)⟩, ⟨by (with_reducible repeat (first | apply Kd.R_alloc | apply Kd.R_drewN | apply Kd.R_drew)); exact Kd.R_mono (Kd.R_far (p := ⟨gb331, 3, none⟩) (Kd.R_far (p := ⟨gb331, 2, none⟩) (Kd.R_far (p := ⟨gb331, 1, none⟩) (Kd.R_far (p := ⟨gb331, 0, none⟩) (Kd.R_mono HO_157.out (fun k_ hk => (⟨hk, hk.2⟩ : _ ∧ k_ ≠ gb331))) (fun _ hk => hk.2) (.int .i64 ((rd_T32 t327 x168_7).f0))) (fun _ hk => hk.2) (.int .i64 ((rd_T32 t327 x168_7).f1))) (fun _ hk => hk.2) (.int .i64 ((rd_T32 t327 x168_7).f2))) (fun _ hk => hk.2) (.int .i64 ((rd_T32 t327 x168_7).f3))) (fun _ hk => ⟨hk.1.1.1, ⟨hk.1.1.2.1, hk.1.1.2.2⟩⟩)⟩, ⟨by (with_reducible repeat (first | apply Kd.R_alloc | apply Kd.R_drewN | apply Kd.R_drew)); exact Kd.R_mono (Kd.R_far (p := ⟨gb331, 3, none⟩) (Kd.R_far (p := ⟨gb331, 2, none⟩) (Kd.R_far (p := ⟨gb331, 1, none⟩) (Kd.R_far (p := ⟨gb331, 0, none⟩) (Kd.R_mono HO_166.out (fun k_ hk => (⟨hk, hk.2⟩ : _ ∧ k_ ≠ gb331))) (fun _ hk => hk.2) (.int .i64 ((rd_T32 t327 x168_7).f0))) (fun _ hk => hk.2) (.int .i64 ((rd_T32 t327 x168_7).f1))) (fun _ hk => hk.2) (.int .i64 ((rd_T32 t327 x168_7).f2))) (fun _ hk => hk.2) (.int .i64 ((rd_T32 t327 x168_7).f3))) (fun _ hk => ⟨hk.1.1.1, ⟨hk.1.1.2.1, hk.1.1.2.2⟩⟩)⟩, ⟨by (with_reducible repeat (first | refine blk_drewN ?_ _ | refine blk_drew ?_ | refine blk_alloc ?_ _)); refine blk_far ?_ NB326_331.out _; (with_reducible repeat (first | refine blk_drewN ?_ _ | refine blk_drew ?_ | refine blk_alloc ?_ _)); refine blk_far ?_ NB326_331.out _; (with_reducible repeat (first | refine blk_drewN ?_ _ | refine blk_drew ?_ | refine blk_alloc ?_ _)); refine blk_far ?_ NB326_331.out _; (with_reducible repeat (first | refine blk_drewN ?_ _ | refine blk_drew ?_ | refine blk_alloc ?_ _)); refine blk_far ?_ NB326_331.out _; (with_reducible repeat (first | refine blk_drewN ?_ _ | refine blk_drew ?_ | refine blk_alloc ?_ _)); exact BK326.out⟩, ⟨by repeat (first | (with_reducible first | exact HB.out | apply below_alloc | apply pw_below_drewN | apply below_drew1 | refine below_set ?_ GE326.out | refine below_set ?_ GE331.out) | exact HB.out)⟩⟩
                           ·
                            as_aux_lemma =>
                             rw [if_neg c81] at H
                             have c81b0 : decide (x168_7 < (t327.length : Int)) = false := decide_eq_false c81
                             clear c81
                             have H' := Aside0.mk H
                             clear H
                             go_wp2
                             repeat (go_quiet (fail); try go_wp2)
                             go_loopg [18, 191] k7 (fun kq v18 v191 w' => ∃ (x18_8 : Int) (x191_8 : Int), v18 = .int .i64 x18_8 ∧ v191 = .int .i64 x191_8 ∧ Aside0 (mootlaw4_BackTells.l3 kq l0 l1 a3 t311 x12_5 x13_5 x18_8 t320 (t320.length : Int) x159_6 l1 (l1.length : Int) x191_8 ((rd_T32 t320 x159_6).f0) ((rd_T32 t320 x159_6).f1) ((rd_T32 t320 x159_6).f2) ((rd_T32 t320 x159_6).f3) = some r) ∧ Aside0 (kq ≤ k7) ∧ Aside0 (Kd.R k32 32 w' w.heap.size (fun k_ => some k_ ≠ ((.slice (some ad325) t320.length co72) : Value).ownBlock ∧ k_ ≠ gb326) (.slice Ao33 t311.length co33) t311) ∧ Aside0 (Kd.R k32 32 w' w.heap.size (fun k_ => some k_ ≠ ((.slice Ao33 t311.length co33) : Value).ownBlock ∧ k_ ≠ gb326) (.slice (some ad325) t320.length co72) t320) ∧ Aside0 (w'.heap[gb326]? = some (.cells #[.int .i64 ((rd_T32 t320 x159_6).f0), .int .i64 ((rd_T32 t320 x159_6).f1), .int .i64 ((rd_T32 t320 x159_6).f2), .int .i64 ((rd_T32 t320 x159_6).f3)] 32 (0, 0))) ∧ Aside0 (Below w.heap.size w w'))
                             case atStart => exact ⟨(x18_7), (0), (by first | rfl | (simp; done) | (simp [*]; done)), (by first | rfl | (simp; done) | (simp [*]; done)), H', ⟨Nat.le_refl _⟩, ⟨by (with_reducible repeat (first | apply Kd.R_alloc | apply Kd.R_drewN | apply Kd.R_drew)); exact Kd.R_mono HO_10.out (fun _ hk => ⟨hk.1, hk.2.2⟩)⟩, ⟨by (with_reducible repeat (first | apply Kd.R_alloc | apply Kd.R_drewN | apply Kd.R_drew)); exact Kd.R_mono HO_157.out (fun _ hk => ⟨hk.1, hk.2.2⟩)⟩, ⟨by (with_reducible repeat (first | refine blk_drewN ?_ _ | refine blk_drew ?_ | refine blk_alloc ?_ _)); exact BK326.out⟩, ⟨by repeat (first | (with_reducible first | exact HB.out | apply below_alloc | apply pw_below_drewN | apply below_drew1 | refine below_set ?_ GE326.out) | exact HB.out)⟩⟩
                             case round =>
                              clear H'
                              try clear c1
                              try clear c2
                              try clear p2
                              try clear c3
                              try clear p3
                              try clear q3
                              try clear hx3
                              try clear c4
                              try clear c5
                              try clear c6
                              try clear p6
                              try clear c7
                              try clear c8
                              try clear c9
                              try clear c12
                              try clear c12b0 c12b1
                              try clear c19
                              try clear c21
                              try clear c21b0 c21b1
                              try clear c25
                              try clear c25b0 c25b1
                              try clear c26
                              try clear c26b0
                              try clear c28
                              try clear c30
                              try clear c30b0 c30b1
                              try clear c31
                              try clear c31b0 c31b1
                              try clear p31
                              try clear q31
                              try clear hx31
                              try clear p32
                              try clear q32
                              try clear hx32
                              try clear p33
                              try clear q33
                              try clear hx33
                              try clear c34
                              try clear c34b0
                              try clear c35
                              try clear c35b0
                              try clear c36
                              try clear c36b0
                              try clear c40
                              try clear c40b0 c40b1
                              try clear c42
                              try clear c42b0 c42b1
                              try clear c43
                              try clear c43b0
                              try clear c45
                              try clear c45b0
                              try clear c46
                              try clear c46b0
                              try clear c47
                              try clear c47b0
                              try clear c49
                              try clear c49b0 c49b1
                              try clear c54
                              try clear c56
                              try clear c56b0 c56b1
                              try clear c59
                              try clear c60
                              try clear c60b0 c60b1
                              try clear c61
                              try clear c61b0
                              try clear p64
                              try clear c65
                              try clear c65b0 c65b1
                              try clear c66
                              try clear c66b0
                              try clear c73
                              try clear c73b0
                              try clear c74
                              try clear c74b0
                              try clear c75
                              try clear c75b0
                              try clear c81
                              try clear c81b0
                              try clear c82
                              try clear c82b0
                              try clear c83
                              try clear c83b0
                              try clear c84
                              try clear c84b0 c84b1
                              try clear c85
                              try clear c85b0 c85b1
                              try clear c87
                              try clear c91
                              try clear c95
                              try clear hcz39_0 hcz39_1 hcz39_2 hcz39_3
                              try clear hcz41_0 hcz41_1 hcz41_2 hcz41_3
                              try clear hcz48_0 hcz48_1 hcz48_2 hcz48_3
                              try clear hcz50_0 hcz50_1 hcz50_2 hcz50_3
                              try clear hcz51_0 hcz51_1 hcz51_2 hcz51_3
                              try clear hcz52_0 hcz52_1 hcz52_2 hcz52_3
                              try clear hcz53_0 hcz53_1 hcz53_2 hcz53_3
                              try clear hcz57_0 hcz57_1 hcz57_2 hcz57_3
                              try clear hcz58_0 hcz58_1 hcz58_2 hcz58_3
                              try clear hcz62_0 hcz62_1 hcz62_2 hcz62_3
                              try clear hcz63_0 hcz63_1 hcz63_2 hcz63_3
                              try clear hcz64_0 hcz64_1 hcz64_2 hcz64_3
                              try clear hcz67_0 hcz67_1 hcz67_2 hcz67_3
                              try clear hcz68_0 hcz68_1 hcz68_2 hcz68_3
                              try clear hcz69_0 hcz69_1 hcz69_2 hcz69_3
                              try clear hcz78_0 hcz78_1 hcz78_2 hcz78_3
                              try clear hcz88_0 hcz88_1 hcz88_2 hcz88_3
                              try clear hcz89_0 hcz89_1 hcz89_2 hcz89_3
                              try clear hcz92_0 hcz92_1 hcz92_2 hcz92_3
                              try clear hcz93_0 hcz93_1 hcz93_2 hcz93_3
                              try clear hcz96_0 hcz96_1 hcz96_2 hcz96_3
                              try clear hcz97_0 hcz97_1 hcz97_2 hcz97_3
                              try clear hfz39_0 hfz39_1 hfz39_2 hfz39_3
                              try clear hfz41_0 hfz41_1 hfz41_2 hfz41_3
                              try clear hfz48_0 hfz48_1 hfz48_2 hfz48_3
                              try clear hfz50_0 hfz50_1 hfz50_2 hfz50_3
                              try clear hfz51_0 hfz51_1 hfz51_2 hfz51_3
                              try clear hfz52_0 hfz52_1 hfz52_2 hfz52_3
                              try clear hfz53_0 hfz53_1 hfz53_2 hfz53_3
                              try clear hfz57_0 hfz57_1 hfz57_2 hfz57_3
                              try clear hfz58_0 hfz58_1 hfz58_2 hfz58_3
                              try clear hfz62_0 hfz62_1 hfz62_2 hfz62_3
                              try clear hfz63_0 hfz63_1 hfz63_2 hfz63_3
                              try clear hfz64_0 hfz64_1 hfz64_2 hfz64_3
                              try clear hfz67_0 hfz67_1 hfz67_2 hfz67_3
                              try clear hfz68_0 hfz68_1 hfz68_2 hfz68_3
                              try clear hfz69_0 hfz69_1 hfz69_2 hfz69_3
                              try clear hfz78_0 hfz78_1 hfz78_2 hfz78_3
                              try clear hfz88_0 hfz88_1 hfz88_2 hfz88_3
                              try clear hfz89_0 hfz89_1 hfz89_2 hfz89_3
                              try clear hfz92_0 hfz92_1 hfz92_2 hfz92_3
                              try clear hfz93_0 hfz93_1 hfz93_2 hfz93_3
                              try clear hfz96_0 hfz96_1 hfz96_2 hfz96_3
                              try clear hfz97_0 hfz97_1 hfz97_2 hfz97_3
                              try clear hx315_0
                              try clear hx315_1
                              try clear hx315_2
                              try clear hx315_3
                              try clear hx317_0
                              try clear hx317_1
                              try clear hx317_2
                              try clear hx317_3
                              try clear hx318_0
                              try clear hx318_1
                              try clear hx318_2
                              try clear hx318_3
                              try clear hx319_0
                              try clear hx319_1
                              try clear hx319_2
                              try clear hx319_3
                              try clear hx325_0
                              try clear hx325_1
                              try clear hx325_2
                              try clear hx325_3
                              try clear hx330_0
                              try clear hx330_1
                              try clear hx330_2
                              try clear hx330_3
                              try clear p2
                              try clear p3
                              try clear p31
                              try clear p315
                              try clear p317
                              try clear p318
                              try clear p319
                              try clear p32
                              try clear p325
                              try clear p330
                              try clear p6
                              try clear p64
                              try clear q3
                              try clear q31
                              try clear q315
                              try clear q317
                              try clear q318
                              try clear q319
                              try clear q32
                              try clear q325
                              try clear q330
                              obtain ⟨x18_8, x191_8, rfl, rfl, HA, HK8, HO_10, HO_157, BK326, HB⟩ := hrel
                              cases gk with
                              | zero => exact absurd HA.out (by simp [mootlaw4_BackTells.l3])
                              | succ k8 =>
                               have H := HA.out
                               clear HA
                               simp only [mootlaw4_BackTells.l3] at H
                               by_cases c98 : x191_8 < (l1.length : Int)
                               ·
                                rw [if_pos c98] at H
                                have c98b0 : decide (x191_8 < (l1.length : Int)) = true := decide_eq_true c98
                                clear c98
                                by_cases c99 : 0 ≤ x191_8
                                rotate_left
                                ·
                                 rw [if_neg c99] at H
                                 exact absurd H (by simp)
                                rw [if_pos c99] at H
                                have c99b0 : decide (0 ≤ x191_8) = true := decide_eq_true c99
                                clear c99
                                by_cases c100 : x191_8 < (l1.length : Int)
                                rotate_left
                                ·
                                 rw [if_neg c100] at H
                                 exact absurd H (by simp)
                                rw [if_pos c100] at H
                                have c100b0 : decide (x191_8 < (l1.length : Int)) = true := decide_eq_true c100
                                clear c100
                                by_cases c101 : ((rd_T32 l1 x191_8).f0) = ((rd_T32 t320 x159_6).f0)
                                ·
                                 rw [if_pos c101] at H
                                 have c101b0 : (((rd_T32 l1 x191_8).f0) == ((rd_T32 t320 x159_6).f0)) = true := beq_iff_eq.mpr c101
                                 have c101b1 : (((rd_T32 l1 x191_8).f0) != ((rd_T32 t320 x159_6).f0)) = false := bne_eq_false_iff_eq.mpr c101
                                 clear c101
                                 by_cases c102 : ((rd_T32 l1 x191_8).f1) = ((rd_T32 t320 x159_6).f1)
                                 ·
                                  rw [if_pos c102] at H
                                  have c102b0 : (((rd_T32 l1 x191_8).f1) == ((rd_T32 t320 x159_6).f1)) = true := beq_iff_eq.mpr c102
                                  have c102b1 : (((rd_T32 l1 x191_8).f1) != ((rd_T32 t320 x159_6).f1)) = false := bne_eq_false_iff_eq.mpr c102
                                  clear c102
                                  have H' := Aside0.mk H
                                  clear H
                                  have p332 : 0 ≤ (x191_8 : Int) := of_decide_eq_true (by first | (with_reducible assumption) | assumption)
                                  have q332 : x191_8 < (l1.length : Int) := of_decide_eq_true (by first | (with_reducible assumption) | assumption)
                                  obtain ⟨ad332, e332, hx332_0, hx332_1, hx332_2, hx332_3⟩ := at_T32 HR1.out x191_8 p332 q332
                                  cases e332
                                  replace hx332_0 := (HB.out.cell (World.block_lt_of_cell? w _ hx332_0)).trans hx332_0
                                  replace hx332_1 := (HB.out.cell (World.block_lt_of_cell? w _ hx332_1)).trans hx332_1
                                  replace hx332_2 := (HB.out.cell (World.block_lt_of_cell? w _ hx332_2)).trans hx332_2
                                  replace hx332_3 := (HB.out.cell (World.block_lt_of_cell? w _ hx332_3)).trans hx332_3
                                  replace p332 := eq_true p332
                                  replace q332 := eq_true q332
                                  go_wp2_with (first | ((with_reducible refine gate_dst (N := 22) rfl ?_); (try (refine gate_guard (by rfl) ?_; dsimp only)); refine box_event ?hg (N := 22) ?hd (cs := #[.int .i64 0, .int .i64 0, .int .i64 0, .int .i64 0]) (t := 32) ?hr ?_; (case hd => rfl); (case hg => rfl); (case hr => first | (go_simp; done) | (go_simp; rfl)); intro gb333 hg w103 hbox hb; have n0_ := Aside0.mk (Kd.R_below (Kd.R_elderB (by (with_reducible repeat (first | apply Kd.R_alloc | apply Kd.R_drewN | apply Kd.R_drew)); exact HO_10.out) gb333 (Nat.le_of_eq hg.symm)) hb); have n1_ := Aside0.mk (Kd.R_below (Kd.R_elderB (by (with_reducible repeat (first | apply Kd.R_alloc | apply Kd.R_drewN | apply Kd.R_drew)); exact HO_157.out) gb333 (Nat.le_of_eq hg.symm)) hb); have n2_ := Aside0.mk (blk_below (g := gb326) (o := .cells #[.int .i64 ((rd_T32 t320 x159_6).f0), .int .i64 ((rd_T32 t320 x159_6).f1), .int .i64 ((rd_T32 t320 x159_6).f2), .int .i64 ((rd_T32 t320 x159_6).f3)] 32 (0, 0)) (by (with_reducible repeat (first | refine blk_drewN ?_ _ | refine blk_drew ?_ | refine blk_alloc ?_ _)); exact BK326.out) hb); have n3_ := Aside0.mk (below_step (by repeat (first | (with_reducible first | exact HB.out | apply below_alloc | apply pw_below_drewN | apply below_drew1 | refine below_set ?_ GE326.out) | exact HB.out)) hb); have n4_ := Aside0.mk (hbox); have n5_ := Aside0.mk ((by rw [hg]; exact (below_size (by repeat (first | (with_reducible first | exact HB.out | apply below_alloc | apply pw_below_drewN | apply below_drew1 | refine below_set ?_ GE326.out) | exact HB.out))) : w.heap.size ≤ gb333)); have n6_ := Aside0.mk ((by rw [hg]; exact (below_size (by repeat (first | (with_reducible first | exact HB.out | apply below_alloc | apply pw_below_drewN | apply below_drew1 | refine below_set ?_ GE326.out) | exact HB.out))) : w.heap.size ≤ gb333)); have n7_ := Aside0.mk ((by rw [hg]; exact Nat.ne_of_lt (blk_lt (g := gb326) (o := .cells #[.int .i64 ((rd_T32 t320 x159_6).f0), .int .i64 ((rd_T32 t320 x159_6).f1), .int .i64 ((rd_T32 t320 x159_6).f2), .int .i64 ((rd_T32 t320 x159_6).f3)] 32 (0, 0)) (by (with_reducible repeat (first | refine blk_drewN ?_ _ | refine blk_drew ?_ | refine blk_alloc ?_ _)); exact BK326.out)) : gb326 ≠ gb333)); have n8_ := Aside0.mk ((by rw [hg]; exact Nat.ne_of_gt (blk_lt (g := gb326) (o := .cells #[.int .i64 ((rd_T32 t320 x159_6).f0), .int .i64 ((rd_T32 t320 x159_6).f1), .int .i64 ((rd_T32 t320 x159_6).f2), .int .i64 ((rd_T32 t320 x159_6).f3)] 32 (0, 0)) (by (with_reducible repeat (first | refine blk_drewN ?_ _ | refine blk_drew ?_ | refine blk_alloc ?_ _)); exact BK326.out)) : gb333 ≠ gb326)); clear HO_10; clear HO_157; clear BK326; clear HB; have HO_10 := n0_; have HO_157 := n1_; have BK326 := n2_; have HB := n3_; have BK333 := n4_; have GW333 := n5_; have GE333 := n6_; have NB326_333 := n7_; have NB333_326 := n8_; clear n0_ n1_ n2_ n3_ n4_ n5_ n6_ n7_ n8_; clear hb hbox hg; have hnb104 := NB333_326.out; have hnc104 := NB326_333.out; have hcz105_0 : w103.cell? ⟨gb333, 0, none⟩ = some (.int .i64 0) := (blk_cell BK333.out 0).trans rfl; have hcz105_1 : w103.cell? ⟨gb333, 1, none⟩ = some (.int .i64 0) := (blk_cell BK333.out 1).trans rfl; have hcz105_2 : w103.cell? ⟨gb333, 2, none⟩ = some (.int .i64 0) := (blk_cell BK333.out 2).trans rfl; have hcz105_3 : w103.cell? ⟨gb333, 3, none⟩ = some (.int .i64 0) := (blk_cell BK333.out 3).trans rfl; have hfz105_0 := blk_frozen BK333.out 0; have hfz105_1 := blk_frozen BK333.out 1; have hfz105_2 := blk_frozen BK333.out 2; have hfz105_3 := blk_frozen BK333.out 3; have hcz106_0 : w103.cell? ⟨gb326, 0, none⟩ = some (.int .i64 ((rd_T32 t320 x159_6).f0)) := (blk_cell BK326.out 0).trans rfl; have hcz106_1 : w103.cell? ⟨gb326, 1, none⟩ = some (.int .i64 ((rd_T32 t320 x159_6).f1)) := (blk_cell BK326.out 1).trans rfl; have hcz106_2 : w103.cell? ⟨gb326, 2, none⟩ = some (.int .i64 ((rd_T32 t320 x159_6).f2)) := (blk_cell BK326.out 2).trans rfl; have hcz106_3 : w103.cell? ⟨gb326, 3, none⟩ = some (.int .i64 ((rd_T32 t320 x159_6).f3)) := (blk_cell BK326.out 3).trans rfl; have hfz106_0 := blk_frozen BK326.out 0; have hfz106_1 := blk_frozen BK326.out 1; have hfz106_2 := blk_frozen BK326.out 2; have hfz106_3 := blk_frozen BK326.out 3))
                                  repeat (go_quiet (fail); try go_wp2)
                                  go_roundg k8
                                  case measure => have := HJ7.out; have := HJ19.out; have := HJ23.out; have := HJ26.out; have := HK5.out; have := HK6.out; have := HK7.out; have := HK8.out; omega
                                  case rel => exact ⟨(wrap64 (x18_8 - ((rd_T32 l1 x191_8).f2))), (wrap64 (x191_8 + 1)), (by first | rfl | (simp; done) | (simp [*]; done)), (by first | rfl | (simp; done) | (simp [*]; done)), H', ⟨by have := HJ7.out; have := HJ19.out; have := HJ23.out; have := HJ26.out; have := HK5.out; have := HK6.out; have := HK7.out; have := HK8.out; omega⟩, ⟨by (with_reducible repeat (first | apply Kd.R_alloc | apply Kd.R_drewN | apply Kd.R_drew)); exact Kd.R_mono (Kd.R_far (p := ⟨gb333, 3, none⟩) (Kd.R_far (p := ⟨gb333, 2, none⟩) (Kd.R_far (p := ⟨gb333, 1, none⟩) (Kd.R_far (p := ⟨gb333, 0, none⟩) (Kd.R_mono HO_10.out (fun k_ hk => (⟨hk, hk.2⟩ : _ ∧ k_ ≠ gb333))) (fun _ hk => hk.2) (.int .i64 ((rd_T32 l1 x191_8).f0))) (fun _ hk => hk.2) (.int .i64 ((rd_T32 l1 x191_8).f1))) (fun _ hk => hk.2) (.int .i64 ((rd_T32 l1 x191_8).f2))) (fun _ hk => hk.2) (.int .i64 ((rd_T32 l1 x191_8).f3))) (fun _ hk => ⟨hk.1.1.1, hk.1.1.2⟩)⟩, ⟨by (with_reducible repeat (first | apply Kd.R_alloc | apply Kd.R_drewN | apply Kd.R_drew)); exact Kd.R_mono (Kd.R_far (p := ⟨gb333, 3, none⟩) (Kd.R_far (p := ⟨gb333, 2, none⟩) (Kd.R_far (p := ⟨gb333, 1, none⟩) (Kd.R_far (p := ⟨gb333, 0, none⟩) (Kd.R_mono HO_157.out (fun k_ hk => (⟨hk, hk.2⟩ : _ ∧ k_ ≠ gb333))) (fun _ hk => hk.2) (.int .i64 ((rd_T32 l1 x191_8).f0))) (fun _ hk => hk.2) (.int .i64 ((rd_T32 l1 x191_8).f1))) (fun _ hk => hk.2) (.int .i64 ((rd_T32 l1 x191_8).f2))) (fun _ hk => hk.2) (.int .i64 ((rd_T32 l1 x191_8).f3))) (fun _ hk => ⟨hk.1.1.1, hk.1.1.2⟩)⟩, ⟨by (with_reducible repeat (first | refine blk_drewN ?_ _ | refine blk_drew ?_ | refine blk_alloc ?_ _)); refine blk_far ?_ NB326_333.out _; (with_reducible repeat (first | refine blk_drewN ?_ _ | refine blk_drew ?_ | refine blk_alloc ?_ _)); refine blk_far ?_ NB326_333.out _; (with_reducible repeat (first | refine blk_drewN ?_ _ | refine blk_drew ?_ | refine blk_alloc ?_ _)); refine blk_far ?_ NB326_333.out _; (with_reducible repeat (first | refine blk_drewN ?_ _ | refine blk_drew ?_ | refine blk_alloc ?_ _)); refine blk_far ?_ NB326_333.out _; (with_reducible repeat (first | refine blk_drewN ?_ _ | refine blk_drew ?_ | refine blk_alloc ?_ _)); exact BK326.out⟩, ⟨by repeat (first | (with_reducible first | exact HB.out | apply below_alloc | apply pw_below_drewN | apply below_drew1 | refine below_set ?_ GE326.out | refine below_set ?_ GE333.out) | exact HB.out)⟩⟩
                                 ·
                                  rw [if_neg c102] at H
                                  have c102b0 : (((rd_T32 l1 x191_8).f1) == ((rd_T32 t320 x159_6).f1)) = false := beq_eq_false_iff_ne.mpr c102
                                  have c102b1 : (((rd_T32 l1 x191_8).f1) != ((rd_T32 t320 x159_6).f1)) = true := bne_iff_ne.mpr c102
                                  have H' := Aside0.mk H
                                  clear H
                                  have p332 : 0 ≤ (x191_8 : Int) := of_decide_eq_true (by first | (with_reducible assumption) | assumption)
                                  have q332 : x191_8 < (l1.length : Int) := of_decide_eq_true (by first | (with_reducible assumption) | assumption)
                                  obtain ⟨ad332, e332, hx332_0, hx332_1, hx332_2, hx332_3⟩ := at_T32 HR1.out x191_8 p332 q332
                                  cases e332
                                  replace hx332_0 := (HB.out.cell (World.block_lt_of_cell? w _ hx332_0)).trans hx332_0
                                  replace hx332_1 := (HB.out.cell (World.block_lt_of_cell? w _ hx332_1)).trans hx332_1
                                  replace hx332_2 := (HB.out.cell (World.block_lt_of_cell? w _ hx332_2)).trans hx332_2
                                  replace hx332_3 := (HB.out.cell (World.block_lt_of_cell? w _ hx332_3)).trans hx332_3
                                  replace p332 := eq_true p332
                                  replace q332 := eq_true q332
                                  go_wp2_with (first | ((with_reducible refine gate_dst (N := 22) rfl ?_); (try (refine gate_guard (by rfl) ?_; dsimp only)); refine box_event ?hg (N := 22) ?hd (cs := #[.int .i64 0, .int .i64 0, .int .i64 0, .int .i64 0]) (t := 32) ?hr ?_; (case hd => rfl); (case hg => rfl); (case hr => first | (go_simp; done) | (go_simp; rfl)); intro gb333 hg w107 hbox hb; have n0_ := Aside0.mk (Kd.R_below (Kd.R_elderB (by (with_reducible repeat (first | apply Kd.R_alloc | apply Kd.R_drewN | apply Kd.R_drew)); exact HO_10.out) gb333 (Nat.le_of_eq hg.symm)) hb); have n1_ := Aside0.mk (Kd.R_below (Kd.R_elderB (by (with_reducible repeat (first | apply Kd.R_alloc | apply Kd.R_drewN | apply Kd.R_drew)); exact HO_157.out) gb333 (Nat.le_of_eq hg.symm)) hb); have n2_ := Aside0.mk (blk_below (g := gb326) (o := .cells #[.int .i64 ((rd_T32 t320 x159_6).f0), .int .i64 ((rd_T32 t320 x159_6).f1), .int .i64 ((rd_T32 t320 x159_6).f2), .int .i64 ((rd_T32 t320 x159_6).f3)] 32 (0, 0)) (by (with_reducible repeat (first | refine blk_drewN ?_ _ | refine blk_drew ?_ | refine blk_alloc ?_ _)); exact BK326.out) hb); have n3_ := Aside0.mk (below_step (by repeat (first | (with_reducible first | exact HB.out | apply below_alloc | apply pw_below_drewN | apply below_drew1 | refine below_set ?_ GE326.out) | exact HB.out)) hb); have n4_ := Aside0.mk (hbox); have n5_ := Aside0.mk ((by rw [hg]; exact (below_size (by repeat (first | (with_reducible first | exact HB.out | apply below_alloc | apply pw_below_drewN | apply below_drew1 | refine below_set ?_ GE326.out) | exact HB.out))) : w.heap.size ≤ gb333)); have n6_ := Aside0.mk ((by rw [hg]; exact (below_size (by repeat (first | (with_reducible first | exact HB.out | apply below_alloc | apply pw_below_drewN | apply below_drew1 | refine below_set ?_ GE326.out) | exact HB.out))) : w.heap.size ≤ gb333)); have n7_ := Aside0.mk ((by rw [hg]; exact Nat.ne_of_lt (blk_lt (g := gb326) (o := .cells #[.int .i64 ((rd_T32 t320 x159_6).f0), .int .i64 ((rd_T32 t320 x159_6).f1), .int .i64 ((rd_T32 t320 x159_6).f2), .int .i64 ((rd_T32 t320 x159_6).f3)] 32 (0, 0)) (by (with_reducible repeat (first | refine blk_drewN ?_ _ | refine blk_drew ?_ | refine blk_alloc ?_ _)); exact BK326.out)) : gb326 ≠ gb333)); have n8_ := Aside0.mk ((by rw [hg]; exact Nat.ne_of_gt (blk_lt (g := gb326) (o := .cells #[.int .i64 ((rd_T32 t320 x159_6).f0), .int .i64 ((rd_T32 t320 x159_6).f1), .int .i64 ((rd_T32 t320 x159_6).f2), .int .i64 ((rd_T32 t320 x159_6).f3)] 32 (0, 0)) (by (with_reducible repeat (first | refine blk_drewN ?_ _ | refine blk_drew ?_ | refine blk_alloc ?_ _)); exact BK326.out)) : gb333 ≠ gb326)); clear HO_10; clear HO_157; clear BK326; clear HB; have HO_10 := n0_; have HO_157 := n1_; have BK326 := n2_; have HB := n3_; have BK333 := n4_; have GW333 := n5_; have GE333 := n6_; have NB326_333 := n7_; have NB333_326 := n8_; clear n0_ n1_ n2_ n3_ n4_ n5_ n6_ n7_ n8_; clear hb hbox hg; have hnb108 := NB333_326.out; have hnc108 := NB326_333.out; have hcz109_0 : w107.cell? ⟨gb333, 0, none⟩ = some (.int .i64 0) := (blk_cell BK333.out 0).trans rfl; have hcz109_1 : w107.cell? ⟨gb333, 1, none⟩ = some (.int .i64 0) := (blk_cell BK333.out 1).trans rfl; have hcz109_2 : w107.cell? ⟨gb333, 2, none⟩ = some (.int .i64 0) := (blk_cell BK333.out 2).trans rfl; have hcz109_3 : w107.cell? ⟨gb333, 3, none⟩ = some (.int .i64 0) := (blk_cell BK333.out 3).trans rfl; have hfz109_0 := blk_frozen BK333.out 0; have hfz109_1 := blk_frozen BK333.out 1; have hfz109_2 := blk_frozen BK333.out 2; have hfz109_3 := blk_frozen BK333.out 3; have hcz110_0 : w107.cell? ⟨gb326, 0, none⟩ = some (.int .i64 ((rd_T32 t320 x159_6).f0)) := (blk_cell BK326.out 0).trans rfl; have hcz110_1 : w107.cell? ⟨gb326, 1, none⟩ = some (.int .i64 ((rd_T32 t320 x159_6).f1)) := (blk_cell BK326.out 1).trans rfl; have hcz110_2 : w107.cell? ⟨gb326, 2, none⟩ = some (.int .i64 ((rd_T32 t320 x159_6).f2)) := (blk_cell BK326.out 2).trans rfl; have hcz110_3 : w107.cell? ⟨gb326, 3, none⟩ = some (.int .i64 ((rd_T32 t320 x159_6).f3)) := (blk_cell BK326.out 3).trans rfl; have hfz110_0 := blk_frozen BK326.out 0; have hfz110_1 := blk_frozen BK326.out 1; have hfz110_2 := blk_frozen BK326.out 2; have hfz110_3 := blk_frozen BK326.out 3))
                                  repeat (go_quiet (fail); try go_wp2)
                                  go_roundg k8
                                  case measure => have := HJ7.out; have := HJ19.out; have := HJ23.out; have := HJ26.out; have := HK5.out; have := HK6.out; have := HK7.out; have := HK8.out; omega
                                  case rel => exact ⟨(x18_8), (wrap64 (x191_8 + 1)), (by first | rfl | (simp; done) | (simp [*]; done)), (by first | rfl | (simp; done) | (simp [*]; done)), H', ⟨by have := HJ7.out; have := HJ19.out; have := HJ23.out; have := HJ26.out; have := HK5.out; have := HK6.out; have := HK7.out; have := HK8.out; omega⟩, ⟨by (with_reducible repeat (first | apply Kd.R_alloc | apply Kd.R_drewN | apply Kd.R_drew)); exact Kd.R_mono (Kd.R_far (p := ⟨gb333, 3, none⟩) (Kd.R_far (p := ⟨gb333, 2, none⟩) (Kd.R_far (p := ⟨gb333, 1, none⟩) (Kd.R_far (p := ⟨gb333, 0, none⟩) (Kd.R_mono HO_10.out (fun k_ hk => (⟨hk, hk.2⟩ : _ ∧ k_ ≠ gb333))) (fun _ hk => hk.2) (.int .i64 ((rd_T32 l1 x191_8).f0))) (fun _ hk => hk.2) (.int .i64 ((rd_T32 l1 x191_8).f1))) (fun _ hk => hk.2) (.int .i64 ((rd_T32 l1 x191_8).f2))) (fun _ hk => hk.2) (.int .i64 ((rd_T32 l1 x191_8).f3))) (fun _ hk => ⟨hk.1.1.1, hk.1.1.2⟩)⟩, ⟨by (with_reducible repeat (first | apply Kd.R_alloc | apply Kd.R_drewN | apply Kd.R_drew)); exact Kd.R_mono (Kd.R_far (p := ⟨gb333, 3, none⟩) (Kd.R_far (p := ⟨gb333, 2, none⟩) (Kd.R_far (p := ⟨gb333, 1, none⟩) (Kd.R_far (p := ⟨gb333, 0, none⟩) (Kd.R_mono HO_157.out (fun k_ hk => (⟨hk, hk.2⟩ : _ ∧ k_ ≠ gb333))) (fun _ hk => hk.2) (.int .i64 ((rd_T32 l1 x191_8).f0))) (fun _ hk => hk.2) (.int .i64 ((rd_T32 l1 x191_8).f1))) (fun _ hk => hk.2) (.int .i64 ((rd_T32 l1 x191_8).f2))) (fun _ hk => hk.2) (.int .i64 ((rd_T32 l1 x191_8).f3))) (fun _ hk => ⟨hk.1.1.1, hk.1.1.2⟩)⟩, ⟨by (with_reducible repeat (first | refine blk_drewN ?_ _ | refine blk_drew ?_ | refine blk_alloc ?_ _)); refine blk_far ?_ NB326_333.out _; (with_reducible repeat (first | refine blk_drewN ?_ _ | refine blk_drew ?_ | refine blk_alloc ?_ _)); refine blk_far ?_ NB326_333.out _; (with_reducible repeat (first | refine blk_drewN ?_ _ | refine blk_drew ?_ | refine blk_alloc ?_ _)); refine blk_far ?_ NB326_333.out _; (with_reducible repeat (first | refine blk_drewN ?_ _ | refine blk_drew ?_ | refine blk_alloc ?_ _)); refine blk_far ?_ NB326_333.out _; (with_reducible repeat (first | refine blk_drewN ?_ _ | refine blk_drew ?_ | refine blk_alloc ?_ _)); exact BK326.out⟩, ⟨by repeat (first | (with_reducible first | exact HB.out | apply below_alloc | apply pw_below_drewN | apply below_drew1 | refine below_set ?_ GE326.out | refine below_set ?_ GE333.out) | exact HB.out)⟩⟩
                                ·
                                 rw [if_neg c101] at H
                                 have c101b0 : (((rd_T32 l1 x191_8).f0) == ((rd_T32 t320 x159_6).f0)) = false := beq_eq_false_iff_ne.mpr c101
                                 have c101b1 : (((rd_T32 l1 x191_8).f0) != ((rd_T32 t320 x159_6).f0)) = true := bne_iff_ne.mpr c101
                                 have H' := Aside0.mk H
                                 clear H
                                 have p332 : 0 ≤ (x191_8 : Int) := of_decide_eq_true (by first | (with_reducible assumption) | assumption)
                                 have q332 : x191_8 < (l1.length : Int) := of_decide_eq_true (by first | (with_reducible assumption) | assumption)
                                 obtain ⟨ad332, e332, hx332_0, hx332_1, hx332_2, hx332_3⟩ := at_T32 HR1.out x191_8 p332 q332
                                 cases e332
                                 replace hx332_0 := (HB.out.cell (World.block_lt_of_cell? w _ hx332_0)).trans hx332_0
                                 replace hx332_1 := (HB.out.cell (World.block_lt_of_cell? w _ hx332_1)).trans hx332_1
                                 replace hx332_2 := (HB.out.cell (World.block_lt_of_cell? w _ hx332_2)).trans hx332_2
                                 replace hx332_3 := (HB.out.cell (World.block_lt_of_cell? w _ hx332_3)).trans hx332_3
                                 replace p332 := eq_true p332
                                 replace q332 := eq_true q332
                                 go_wp2_with (first | ((with_reducible refine gate_dst (N := 22) rfl ?_); (try (refine gate_guard (by rfl) ?_; dsimp only)); refine box_event ?hg (N := 22) ?hd (cs := #[.int .i64 0, .int .i64 0, .int .i64 0, .int .i64 0]) (t := 32) ?hr ?_; (case hd => rfl); (case hg => rfl); (case hr => first | (go_simp; done) | (go_simp; rfl)); intro gb333 hg w111 hbox hb; have n0_ := Aside0.mk (Kd.R_below (Kd.R_elderB (by (with_reducible repeat (first | apply Kd.R_alloc | apply Kd.R_drewN | apply Kd.R_drew)); exact HO_10.out) gb333 (Nat.le_of_eq hg.symm)) hb); have n1_ := Aside0.mk (Kd.R_below (Kd.R_elderB (by (with_reducible repeat (first | apply Kd.R_alloc | apply Kd.R_drewN | apply Kd.R_drew)); exact HO_157.out) gb333 (Nat.le_of_eq hg.symm)) hb); have n2_ := Aside0.mk (blk_below (g := gb326) (o := .cells #[.int .i64 ((rd_T32 t320 x159_6).f0), .int .i64 ((rd_T32 t320 x159_6).f1), .int .i64 ((rd_T32 t320 x159_6).f2), .int .i64 ((rd_T32 t320 x159_6).f3)] 32 (0, 0)) (by (with_reducible repeat (first | refine blk_drewN ?_ _ | refine blk_drew ?_ | refine blk_alloc ?_ _)); exact BK326.out) hb); have n3_ := Aside0.mk (below_step (by repeat (first | (with_reducible first | exact HB.out | apply below_alloc | apply pw_below_drewN | apply below_drew1 | refine below_set ?_ GE326.out) | exact HB.out)) hb); have n4_ := Aside0.mk (hbox); have n5_ := Aside0.mk ((by rw [hg]; exact (below_size (by repeat (first | (with_reducible first | exact HB.out | apply below_alloc | apply pw_below_drewN | apply below_drew1 | refine below_set ?_ GE326.out) | exact HB.out))) : w.heap.size ≤ gb333)); have n6_ := Aside0.mk ((by rw [hg]; exact (below_size (by repeat (first | (with_reducible first | exact HB.out | apply below_alloc | apply pw_below_drewN | apply below_drew1 | refine below_set ?_ GE326.out) | exact HB.out))) : w.heap.size ≤ gb333)); have n7_ := Aside0.mk ((by rw [hg]; exact Nat.ne_of_lt (blk_lt (g := gb326) (o := .cells #[.int .i64 ((rd_T32 t320 x159_6).f0), .int .i64 ((rd_T32 t320 x159_6).f1), .int .i64 ((rd_T32 t320 x159_6).f2), .int .i64 ((rd_T32 t320 x159_6).f3)] 32 (0, 0)) (by (with_reducible repeat (first | refine blk_drewN ?_ _ | refine blk_drew ?_ | refine blk_alloc ?_ _)); exact BK326.out)) : gb326 ≠ gb333)); have n8_ := Aside0.mk ((by rw [hg]; exact Nat.ne_of_gt (blk_lt (g := gb326) (o := .cells #[.int .i64 ((rd_T32 t320 x159_6).f0), .int .i64 ((rd_T32 t320 x159_6).f1), .int .i64 ((rd_T32 t320 x159_6).f2), .int .i64 ((rd_T32 t320 x159_6).f3)] 32 (0, 0)) (by (with_reducible repeat (first | refine blk_drewN ?_ _ | refine blk_drew ?_ | refine blk_alloc ?_ _)); exact BK326.out)) : gb333 ≠ gb326)); clear HO_10; clear HO_157; clear BK326; clear HB; have HO_10 := n0_; have HO_157 := n1_; have BK326 := n2_; have HB := n3_; have BK333 := n4_; have GW333 := n5_; have GE333 := n6_; have NB326_333 := n7_; have NB333_326 := n8_; clear n0_ n1_ n2_ n3_ n4_ n5_ n6_ n7_ n8_; clear hb hbox hg; have hnb112 := NB333_326.out; have hnc112 := NB326_333.out; have hcz113_0 : w111.cell? ⟨gb333, 0, none⟩ = some (.int .i64 0) := (blk_cell BK333.out 0).trans rfl; have hcz113_1 : w111.cell? ⟨gb333, 1, none⟩ = some (.int .i64 0) := (blk_cell BK333.out 1).trans rfl; have hcz113_2 : w111.cell? ⟨gb333, 2, none⟩ = some (.int .i64 0) := (blk_cell BK333.out 2).trans rfl; have hcz113_3 : w111.cell? ⟨gb333, 3, none⟩ = some (.int .i64 0) := (blk_cell BK333.out 3).trans rfl; have hfz113_0 := blk_frozen BK333.out 0; have hfz113_1 := blk_frozen BK333.out 1; have hfz113_2 := blk_frozen BK333.out 2; have hfz113_3 := blk_frozen BK333.out 3; have hcz114_0 : w111.cell? ⟨gb326, 0, none⟩ = some (.int .i64 ((rd_T32 t320 x159_6).f0)) := (blk_cell BK326.out 0).trans rfl; have hcz114_1 : w111.cell? ⟨gb326, 1, none⟩ = some (.int .i64 ((rd_T32 t320 x159_6).f1)) := (blk_cell BK326.out 1).trans rfl; have hcz114_2 : w111.cell? ⟨gb326, 2, none⟩ = some (.int .i64 ((rd_T32 t320 x159_6).f2)) := (blk_cell BK326.out 2).trans rfl; have hcz114_3 : w111.cell? ⟨gb326, 3, none⟩ = some (.int .i64 ((rd_T32 t320 x159_6).f3)) := (blk_cell BK326.out 3).trans rfl; have hfz114_0 := blk_frozen BK326.out 0; have hfz114_1 := blk_frozen BK326.out 1; have hfz114_2 := blk_frozen BK326.out 2; have hfz114_3 := blk_frozen BK326.out 3))
                                 repeat (go_quiet (fail); try go_wp2)
                                 go_roundg k8
                                 case measure => have := HJ7.out; have := HJ19.out; have := HJ23.out; have := HJ26.out; have := HK5.out; have := HK6.out; have := HK7.out; have := HK8.out; omega
                                 case rel => exact ⟨(x18_8), (wrap64 (x191_8 + 1)), (by first | rfl | (simp; done) | (simp [*]; done)), (by first | rfl | (simp; done) | (simp [*]; done)), H', ⟨by have := HJ7.out; have := HJ19.out; have := HJ23.out; have := HJ26.out; have := HK5.out; have := HK6.out; have := HK7.out; have := HK8.out; omega⟩, ⟨by (with_reducible repeat (first | apply Kd.R_alloc | apply Kd.R_drewN | apply Kd.R_drew)); exact Kd.R_mono (Kd.R_far (p := ⟨gb333, 3, none⟩) (Kd.R_far (p := ⟨gb333, 2, none⟩) (Kd.R_far (p := ⟨gb333, 1, none⟩) (Kd.R_far (p := ⟨gb333, 0, none⟩) (Kd.R_mono HO_10.out (fun k_ hk => (⟨hk, hk.2⟩ : _ ∧ k_ ≠ gb333))) (fun _ hk => hk.2) (.int .i64 ((rd_T32 l1 x191_8).f0))) (fun _ hk => hk.2) (.int .i64 ((rd_T32 l1 x191_8).f1))) (fun _ hk => hk.2) (.int .i64 ((rd_T32 l1 x191_8).f2))) (fun _ hk => hk.2) (.int .i64 ((rd_T32 l1 x191_8).f3))) (fun _ hk => ⟨hk.1.1.1, hk.1.1.2⟩)⟩, ⟨by (with_reducible repeat (first | apply Kd.R_alloc | apply Kd.R_drewN | apply Kd.R_drew)); exact Kd.R_mono (Kd.R_far (p := ⟨gb333, 3, none⟩) (Kd.R_far (p := ⟨gb333, 2, none⟩) (Kd.R_far (p := ⟨gb333, 1, none⟩) (Kd.R_far (p := ⟨gb333, 0, none⟩) (Kd.R_mono HO_157.out (fun k_ hk => (⟨hk, hk.2⟩ : _ ∧ k_ ≠ gb333))) (fun _ hk => hk.2) (.int .i64 ((rd_T32 l1 x191_8).f0))) (fun _ hk => hk.2) (.int .i64 ((rd_T32 l1 x191_8).f1))) (fun _ hk => hk.2) (.int .i64 ((rd_T32 l1 x191_8).f2))) (fun _ hk => hk.2) (.int .i64 ((rd_T32 l1 x191_8).f3))) (fun _ hk => ⟨hk.1.1.1, hk.1.1.2⟩)⟩, ⟨by (with_reducible repeat (first | refine blk_drewN ?_ _ | refine blk_drew ?_ | refine blk_alloc ?_ _)); refine blk_far ?_ NB326_333.out _; (with_reducible repeat (first | refine blk_drewN ?_ _ | refine blk_drew ?_ | refine blk_alloc ?_ _)); refine blk_far ?_ NB326_333.out _; (with_reducible repeat (first | refine blk_drewN ?_ _ | refine blk_drew ?_ | refine blk_alloc ?_ _)); refine blk_far ?_ NB326_333.out _; (with_reducible repeat (first | refine blk_drewN ?_ _ | refine blk_drew ?_ | refine blk_alloc ?_ _)); refine blk_far ?_ NB326_333.out _; (with_reducible repeat (first | refine blk_drewN ?_ _ | refine blk_drew ?_ | refine blk_alloc ?_ _)); exact BK326.out⟩, ⟨by repeat (first | (with_reducible first | exact HB.out | apply below_alloc | apply pw_below_drewN | apply below_drew1 | refine below_set ?_ GE326.out | refine below_set ?_ GE333.out) | exact HB.out)⟩⟩
                               ·
                                rw [if_neg c98] at H
                                have c98b0 : decide (x191_8 < (l1.length : Int)) = false := decide_eq_false c98
                                clear c98
                                by_cases c115 : x18_8 = 0
                                ·
                                 rw [if_pos c115] at H
                                 have c115b0 : (x18_8 == 0) = true := beq_iff_eq.mpr c115
                                 have c115b1 : (x18_8 != 0) = false := bne_eq_false_iff_eq.mpr c115
                                 clear c115
                                 have H' := Aside0.mk H
                                 clear H
                                 go_wp2
                                 repeat (go_quiet (fail); try go_wp2)
                                 go_roundg k8
                                 case measure => have := HJ7.out; have := HJ19.out; have := HJ23.out; have := HJ26.out; have := HK5.out; have := HK6.out; have := HK7.out; have := HK8.out; omega
                                 case rel => exact ⟨(wrap64 (x159_6 + 1)), (by first | rfl | (simp; done) | (simp [*]; done)), H', ⟨by have := HJ7.out; have := HJ19.out; have := HJ23.out; have := HJ26.out; have := HK5.out; have := HK6.out; have := HK7.out; have := HK8.out; omega⟩, ⟨by (with_reducible repeat (first | apply Kd.R_alloc | apply Kd.R_drewN | apply Kd.R_drew)); exact Kd.R_mono HO_10.out (fun _ hk => hk.1)⟩, ⟨by (with_reducible repeat (first | apply Kd.R_alloc | apply Kd.R_drewN | apply Kd.R_drew)); exact Kd.R_mono HO_157.out (fun _ hk => hk.1)⟩, ⟨by repeat (first | (with_reducible first | exact HB.out | apply below_alloc | apply pw_below_drewN | apply below_drew1 | refine below_set ?_ GE326.out) | exact HB.out)⟩⟩
                                ·
                                 rw [if_neg c115] at H
                                 have c115b0 : (x18_8 == 0) = false := beq_eq_false_iff_ne.mpr c115
                                 have c115b1 : (x18_8 != 0) = true := bne_iff_ne.mpr c115
                                 obtain rfl := Option.some.inj H
                                 go_wp2
                                 repeat (go_quiet (fail); try go_wp2)
                                 go_ret
                                 exact ⟨by first | rfl | (simp [errW_none, errW_some] <;> rfl) | (simp [*, errW_none, errW_some] <;> rfl), by repeat (first | (with_reducible first | exact HB.out | apply below_alloc | apply pw_below_drewN | apply below_drew1 | refine below_set ?_ GE326.out) | exact HB.out)⟩
                       ·
                        rw [if_neg c73] at H
                        have c73b0 : decide (x159_6 < (t320.length : Int)) = false := decide_eq_false c73
                        clear c73
                        replace H := Option.bind_eq_some_iff.mp H
                        obtain ⟨⟨t323, t324⟩, A1160, H⟩ := H
                        replace H : (if t323 = x12_5 then (some (t324 == x13_5)) else (some false)) = some r := H
                        have A116 := Aside0.mk A1160
                        clear A1160
                        by_cases c117 : t323 = x12_5
                        ·
                         rw [if_pos c117] at H
                         have c117b0 : (t323 == x12_5) = true := beq_iff_eq.mpr c117
                         have c117b1 : (t323 != x12_5) = false := bne_eq_false_iff_eq.mpr c117
                         clear c117
                         obtain rfl := Option.some.inj H
                         go_wp2_with (first | (go_at_call 25; (with_reducible refine (back_Net.calls k6 _ _ t311 a3 t323 t324 _ ?side1 ?side2 A116.out).mono ?_); (case side1 => repeat (first | exact (Kd.R_reads' HO_10.out).2.2 | (with_reducible refine Kd.C_alloc ?_ _) | (with_reducible refine Kd.C_drewN ?_ _) | (with_reducible refine Kd.C_drew ?_))); (case side2 => exact (Kd.R_reads' HO_10.out).2.1); rintro e w118 ⟨rfl, hb⟩; have n0_ := Aside0.mk (Kd.R_below (by (with_reducible repeat (first | apply Kd.R_alloc | apply Kd.R_drewN | apply Kd.R_drew)); exact HO_10.out) hb); have n1_ := Aside0.mk (Kd.R_below (by (with_reducible repeat (first | apply Kd.R_alloc | apply Kd.R_drewN | apply Kd.R_drew)); exact HO_157.out) hb); have n2_ := Aside0.mk (below_step (by repeat (first | (with_reducible first | exact HB.out | apply below_alloc | apply pw_below_drewN | apply below_drew1) | exact HB.out)) hb); clear HO_10; clear HO_157; clear HB; have HO_10 := n0_; have HO_157 := n1_; have HB := n2_; clear n0_ n1_ n2_; (try clear hb); (try clear hb2); (try clear hk); (try clear hi)))
                         repeat (go_quiet (fail); try go_wp2)
                         go_ret
                         exact ⟨by first | rfl | (simp [errW_none, errW_some] <;> rfl) | (simp [*, errW_none, errW_some] <;> rfl), by repeat (first | (with_reducible first | exact HB.out | apply below_alloc | apply pw_below_drewN | apply below_drew1) | exact HB.out)⟩
                        ·
                         rw [if_neg c117] at H
                         have c117b0 : (t323 == x12_5) = false := beq_eq_false_iff_ne.mpr c117
                         have c117b1 : (t323 != x12_5) = true := bne_iff_ne.mpr c117
                         obtain rfl := Option.some.inj H
                         go_wp2_with (first | (go_at_call 25; (with_reducible refine (back_Net.calls k6 _ _ t311 a3 t323 t324 _ ?side1 ?side2 A116.out).mono ?_); (case side1 => repeat (first | exact (Kd.R_reads' HO_10.out).2.2 | (with_reducible refine Kd.C_alloc ?_ _) | (with_reducible refine Kd.C_drewN ?_ _) | (with_reducible refine Kd.C_drew ?_))); (case side2 => exact (Kd.R_reads' HO_10.out).2.1); rintro e w119 ⟨rfl, hb⟩; have n0_ := Aside0.mk (Kd.R_below (by (with_reducible repeat (first | apply Kd.R_alloc | apply Kd.R_drewN | apply Kd.R_drew)); exact HO_10.out) hb); have n1_ := Aside0.mk (Kd.R_below (by (with_reducible repeat (first | apply Kd.R_alloc | apply Kd.R_drewN | apply Kd.R_drew)); exact HO_157.out) hb); have n2_ := Aside0.mk (below_step (by repeat (first | (with_reducible first | exact HB.out | apply below_alloc | apply pw_below_drewN | apply below_drew1) | exact HB.out)) hb); clear HO_10; clear HO_157; clear HB; have HO_10 := n0_; have HO_157 := n1_; have HB := n2_; clear n0_ n1_ n2_; (try clear hb); (try clear hb2); (try clear hk); (try clear hi)))
                         repeat (go_quiet (fail); try go_wp2)
                         go_ret
                         exact ⟨by first | rfl | (simp [errW_none, errW_some] <;> rfl) | (simp [*, errW_none, errW_some] <;> rfl), by repeat (first | (with_reducible first | exact HB.out | apply below_alloc | apply pw_below_drewN | apply below_drew1) | exact HB.out)⟩
               ·
                rw [if_neg c31] at H
                have c31b0 : (t312 == 0) = false := beq_eq_false_iff_ne.mpr c31
                have c31b1 : (t312 != 0) = true := bne_iff_ne.mpr c31
                obtain rfl := Option.some.inj H
                go_wp2_with (first | (go_at_call 15; (with_reducible refine (back_Correct.calls _ _ l0 _ _ l1 a2 t311 t312 _ ?side1 ?side2 ?side3 ?side4 A29.out).mono ?_); (case side1 => repeat (first | exact (Kd.C_below HR0.out HB.out) | (with_reducible refine Kd.C_alloc ?_ _) | (with_reducible refine Kd.C_drewN ?_ _) | (with_reducible refine Kd.C_drew ?_))); (case side2 => exact HC0.out); (case side3 => repeat (first | exact (Kd.C_below HR1.out HB.out) | (with_reducible refine Kd.C_alloc ?_ _) | (with_reducible refine Kd.C_drewN ?_ _) | (with_reducible refine Kd.C_drew ?_))); (case side4 => exact HC1.out); rintro e w120 ⟨v313, rfl, ho0, hb⟩; have n0_ := Aside0.mk (Kd.R_lower ho0 (below_size (by repeat (first | (with_reducible first | exact HB.out | apply below_alloc | apply pw_below_drewN | apply below_drew1) | exact HB.out)))); have n1_ := Aside0.mk (below_step (by repeat (first | (with_reducible first | exact HB.out | apply below_alloc | apply pw_below_drewN | apply below_drew1) | exact HB.out)) hb); clear HB; have HO314 := n0_; have HB := n1_; clear n0_ n1_; (try clear hb); (try clear hb2); (try clear hk); (try clear hi); (try clear ho0)))
                repeat (go_quiet (fail); try go_wp2)
                go_ret
                exact ⟨by first | rfl | (simp [errW_none, errW_some] <;> rfl) | (simp [*, errW_none, errW_some] <;> rfl), by repeat (first | (with_reducible first | exact HB.out | apply below_alloc | apply pw_below_drewN | apply below_drew1) | exact HB.out)⟩
             ·
              rw [if_neg c30] at H
              have c30b0 : (x9_26 == 0) = false := beq_eq_false_iff_ne.mpr c30
              have c30b1 : (x9_26 != 0) = true := bne_iff_ne.mpr c30
              by_cases c121 : t312 = x9_26
              ·
               rw [if_pos c121] at H
               have c121b0 : (t312 == x9_26) = true := beq_iff_eq.mpr c121
               have c121b1 : (t312 != x9_26) = false := bne_eq_false_iff_eq.mpr c121
               clear c121
               obtain rfl := Option.some.inj H
               go_wp2_with (first | (go_at_call 15; (with_reducible refine (back_Correct.calls _ _ l0 _ _ l1 a2 t311 t312 _ ?side1 ?side2 ?side3 ?side4 A29.out).mono ?_); (case side1 => repeat (first | exact (Kd.C_below HR0.out HB.out) | (with_reducible refine Kd.C_alloc ?_ _) | (with_reducible refine Kd.C_drewN ?_ _) | (with_reducible refine Kd.C_drew ?_))); (case side2 => exact HC0.out); (case side3 => repeat (first | exact (Kd.C_below HR1.out HB.out) | (with_reducible refine Kd.C_alloc ?_ _) | (with_reducible refine Kd.C_drewN ?_ _) | (with_reducible refine Kd.C_drew ?_))); (case side4 => exact HC1.out); rintro e w122 ⟨v313, rfl, ho0, hb⟩; have n0_ := Aside0.mk (Kd.R_lower ho0 (below_size (by repeat (first | (with_reducible first | exact HB.out | apply below_alloc | apply pw_below_drewN | apply below_drew1) | exact HB.out)))); have n1_ := Aside0.mk (below_step (by repeat (first | (with_reducible first | exact HB.out | apply below_alloc | apply pw_below_drewN | apply below_drew1) | exact HB.out)) hb); clear HB; have HO314 := n0_; have HB := n1_; clear n0_ n1_; (try clear hb); (try clear hb2); (try clear hk); (try clear hi); (try clear ho0); obtain ⟨Ao123, co123, eo123⟩ := Kd.R_slice HO314.out; subst eo123))
               repeat (go_quiet (fail); try go_wp2)
               go_ret
               exact ⟨by first | rfl | (simp [errW_none, errW_some] <;> rfl) | (simp [*, errW_none, errW_some] <;> rfl), by repeat (first | (with_reducible first | exact HB.out | apply below_alloc | apply pw_below_drewN | apply below_drew1) | exact HB.out)⟩
              ·
               rw [if_neg c121] at H
               have c121b0 : (t312 == x9_26) = false := beq_eq_false_iff_ne.mpr c121
               have c121b1 : (t312 != x9_26) = true := bne_iff_ne.mpr c121
               obtain rfl := Option.some.inj H
               go_wp2_with (first | (go_at_call 15; (with_reducible refine (back_Correct.calls _ _ l0 _ _ l1 a2 t311 t312 _ ?side1 ?side2 ?side3 ?side4 A29.out).mono ?_); (case side1 => repeat (first | exact (Kd.C_below HR0.out HB.out) | (with_reducible refine Kd.C_alloc ?_ _) | (with_reducible refine Kd.C_drewN ?_ _) | (with_reducible refine Kd.C_drew ?_))); (case side2 => exact HC0.out); (case side3 => repeat (first | exact (Kd.C_below HR1.out HB.out) | (with_reducible refine Kd.C_alloc ?_ _) | (with_reducible refine Kd.C_drewN ?_ _) | (with_reducible refine Kd.C_drew ?_))); (case side4 => exact HC1.out); rintro e w124 ⟨v313, rfl, ho0, hb⟩; have n0_ := Aside0.mk (Kd.R_lower ho0 (below_size (by repeat (first | (with_reducible first | exact HB.out | apply below_alloc | apply pw_below_drewN | apply below_drew1) | exact HB.out)))); have n1_ := Aside0.mk (below_step (by repeat (first | (with_reducible first | exact HB.out | apply below_alloc | apply pw_below_drewN | apply below_drew1) | exact HB.out)) hb); clear HB; have HO314 := n0_; have HB := n1_; clear n0_ n1_; (try clear hb); (try clear hb2); (try clear hk); (try clear hi); (try clear ho0)))
               repeat (go_quiet (fail); try go_wp2)
               go_ret
               exact ⟨by first | rfl | (simp [errW_none, errW_some] <;> rfl) | (simp [*, errW_none, errW_some] <;> rfl), by repeat (first | (with_reducible first | exact HB.out | apply below_alloc | apply pw_below_drewN | apply below_drew1) | exact HB.out)⟩
 ·
  replace c6 := Bool.eq_false_iff.mpr c6
  subst c6
  have H1 : (some false) = some r := by rw [if_neg (show ¬ (false = true) by decide)] at H; exact H
  clear H
  have H := H1
  clear H1
  obtain rfl := Option.some.inj H
  go_enter Try.func6, Try.ntmps6
  go_wp2_with (first | (go_at_call 18; (with_reducible refine (mootlaw4_corrects.calls k  false _ A5.out).mono ?_); rintro e w125 ⟨rfl, hb⟩; have n0_ := Aside0.mk (below_step (by repeat (first | (with_reducible first | exact HB.out | apply below_alloc | apply pw_below_drewN | apply below_drew1) | exact HB.out)) hb); clear HB; have HB := n0_; clear n0_; (try clear hb); (try clear hb2); (try clear hk); (try clear hi)))
  repeat (go_quiet (fail); try go_wp2)
  go_ret
  exact ⟨by first | rfl | (simp [errW_none, errW_some] <;> rfl) | (simp [*, errW_none, errW_some] <;> rfl), by repeat (first | (with_reducible first | exact HB.out | apply below_alloc | apply pw_below_drewN | apply below_drew1) | exact HB.out)⟩

/-- THE ONE PURE STATEMENT of mootlaw4_BackTells: yours. -/
def mootlaw4_BackTells.Pure : Prop := ∀ (l0 : List (S32)) (l1 : List (S32)) (a2 : Int) (a3 : Int), l0.length ≤ maxLen → l0.length * 32 ≤ 140737488351232 → (∀ x ∈ l0, wf_S32 x) → l1.length ≤ maxLen → l1.length * 32 ≤ 140737488351232 → (∀ x ∈ l1, wf_S32 x) → (Lit.int .i64 a2).wf = true → (Lit.int .i64 a3).wf = true → ∃ k, mootlaw4_BackTells.f k l0 l1 a2 a3 = some true
theorem mootlaw4_BackTells.walk (P : mootlaw4_BackTells.Pure) (a0 : Option Addr) (len0 cap0 : Nat) (l0 : List (S32)) (a1 : Option Addr) (len1 cap1 : Nat) (l1 : List (S32)) (a2 : Int) (a3 : Int) (w : World) (w0 : len0 = l0.length ∧ l0.length ≤ cap0 ∧ Kd.C k32 w a0 l0.length l0) (x0 : l0.length ≤ maxLen ∧ ∀ x ∈ l0, wf_S32 x) (y0 : len0 * 32 ≤ 140737488351232) (w1 : len1 = l1.length ∧ l1.length ≤ cap1 ∧ Kd.C k32 w a1 l1.length l1) (x1 : l1.length ≤ maxLen ∧ ∀ x ∈ l1, wf_S32 x) (y1 : len1 * 32 ≤ 140737488351232) (w2 : (Lit.int .i64 a2).wf = true) (w3 : (Lit.int .i64 a3).wf = true) :
  Calls Try.prog 6 #[.slice a0 len0 cap0, .slice a1 len1 cap1, .int .i64 a2, .int .i64 a3] w fun e w' => e = .returned (.bool true) ∧ Below w.heap.size w w' := by
 obtain ⟨rfl, hc0, hr0⟩ := w0
 obtain ⟨rfl, hc1, hr1⟩ := w1
 obtain ⟨k, h⟩ := P l0 l1 a2 a3 x0.1 y0 x0.2 x1.1 y1 x1.2 w2 w3
 refine (mootlaw4_BackTells.calls k _ _ l0 _ _ l1 a2 a3 true w hr0 hc0 hr1 hc1 h).mono ?_
 rintro e w' ⟨rfl, hd⟩
 exact ⟨rfl, hd⟩

end Go.Proofs.Ytbcaaocogphdeaa.PAll
