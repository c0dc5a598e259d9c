-- Printed by this session's wip/myprint.py.
import Derived.Test.YtghnbiknghelpaaPStpx0
import Derived.Test.YtghnbiknghelpaaPStpx11
import Derived.Test.YtghnbiknghelpaaPStpx22
import Derived.Test.YtghnbiknghelpaaPStpx23
namespace Go.Proofs.Ytghnbiknghelpaa.PStp
open Go.RowKit Go.Proofs.YtghnbiknghelpaaW.PrintWords Go.Proofs.YtghnbiknghelpaaW.PrintLast Go.Proofs.YtghnbiknghelpaaW.PrintMore
attribute [local go_sem] max2_int min2_int max_two min_two max_three min_three max_four min_four   -- for this text's walks alone
set_option linter.unusedVariables false
set_option linter.unusedSimpArgs false

/-! ### mootref4_Follow: function 41 -/
mutual
def mootref4_Follow.l0 : Nat → List (S73) → Int → Int → Int → Int → Int → Int → Int → Option (Int × Int × Int × Int × Int × Int)
 | 0, _, _, _, _, _, _, _, _ => none
 | k + 1, x12, x13, x14, x185000, x185001, x185002, x185003, x185004 => if x14 < x13 then (if 0 ≤ x14 then (if x14 < (x12.length : Int) then (if ((rd_T73 x12 x14).f0) < 1 then (mootref4_Follow.j1 k ((rd_T73 x12 x14).f0) ((rd_T73 x12 x14).f1) ((rd_T73 x12 x14).f2) x12 x13 x14 true x185000 x185001 x185002 x185003 x185004) else (if ((rd_T73 x12 x14).f0) > 6 then (mootref4_Follow.j1 k ((rd_T73 x12 x14).f0) ((rd_T73 x12 x14).f1) ((rd_T73 x12 x14).f2) x12 x13 x14 true x185000 x185001 x185002 x185003 x185004) else (if ((rd_T73 x12 x14).f2) < 0 then (mootref4_Follow.j1 k ((rd_T73 x12 x14).f0) ((rd_T73 x12 x14).f1) ((rd_T73 x12 x14).f2) x12 x13 x14 true x185000 x185001 x185002 x185003 x185004) else (mootref4_Follow.j1 k ((rd_T73 x12 x14).f0) ((rd_T73 x12 x14).f1) ((rd_T73 x12 x14).f2) x12 x13 x14 (decide (((rd_T73 x12 x14).f2) > 1048575)) x185000 x185001 x185002 x185003 x185004)))) else (none)) else (none)) else (some (x185000, x185001, x185002, x185003, x185004, 0))
def mootref4_Follow.j1 : Nat → Int → Int → Int → List (S73) → Int → Int → Bool → Int → Int → Int → Int → Int → Option (Int × Int × Int × Int × Int × Int)
 | 0, _, _, _, _, _, _, _, _, _, _, _, _ => none
 | k + 1, x7, x8, x9, x12, x13, x14, x37, x185000, x185001, x185002, x185003, x185004 => if x37 = true then (some (0, 0, 0, 0, 0, 1)) else (if x7 = 2 then (if x8 = 2 then (if x7 = 3 then (if x7 = 5 then (if x8 = 1 then (if x7 = 1 then (mootref4_Follow.j2 k x7 x9 x12 x13 x14 (x8 != 1) x185000 x185001 x185002 x185003 x185004) else (if x7 = 4 then (mootref4_Follow.j2 k x7 x9 x12 x13 x14 (x8 != 1) x185000 x185001 x185002 x185003 x185004) else (if x7 = 6 then (mootref4_Follow.j2 k x7 x9 x12 x13 x14 (x8 != 1) x185000 x185001 x185002 x185003 x185004) else (mootref4_Follow.j2 k x7 x9 x12 x13 x14 false x185000 x185001 x185002 x185003 x185004)))) else (if x7 = 1 then (mootref4_Follow.j2 k x7 x9 x12 x13 x14 (x8 != 1) x185000 x185001 x185002 x185003 x185004) else (if x7 = 4 then (mootref4_Follow.j2 k x7 x9 x12 x13 x14 (x8 != 1) x185000 x185001 x185002 x185003 x185004) else (if x7 = 6 then (mootref4_Follow.j2 k x7 x9 x12 x13 x14 (x8 != 1) x185000 x185001 x185002 x185003 x185004) else (mootref4_Follow.j2 k x7 x9 x12 x13 x14 false x185000 x185001 x185002 x185003 x185004))))) else (if x7 = 1 then (mootref4_Follow.j2 k x7 x9 x12 x13 x14 (x8 != 1) x185000 x185001 x185002 x185003 x185004) else (if x7 = 4 then (mootref4_Follow.j2 k x7 x9 x12 x13 x14 (x8 != 1) x185000 x185001 x185002 x185003 x185004) else (if x7 = 6 then (mootref4_Follow.j2 k x7 x9 x12 x13 x14 (x8 != 1) x185000 x185001 x185002 x185003 x185004) else (mootref4_Follow.j2 k x7 x9 x12 x13 x14 false x185000 x185001 x185002 x185003 x185004))))) else (if x7 = 5 then (if x8 = 1 then (if x7 = 1 then (mootref4_Follow.j2 k x7 x9 x12 x13 x14 (x8 != 1) x185000 x185001 x185002 x185003 x185004) else (if x7 = 4 then (mootref4_Follow.j2 k x7 x9 x12 x13 x14 (x8 != 1) x185000 x185001 x185002 x185003 x185004) else (if x7 = 6 then (mootref4_Follow.j2 k x7 x9 x12 x13 x14 (x8 != 1) x185000 x185001 x185002 x185003 x185004) else (mootref4_Follow.j2 k x7 x9 x12 x13 x14 false x185000 x185001 x185002 x185003 x185004)))) else (if x7 = 1 then (mootref4_Follow.j2 k x7 x9 x12 x13 x14 (x8 != 1) x185000 x185001 x185002 x185003 x185004) else (if x7 = 4 then (mootref4_Follow.j2 k x7 x9 x12 x13 x14 (x8 != 1) x185000 x185001 x185002 x185003 x185004) else (if x7 = 6 then (mootref4_Follow.j2 k x7 x9 x12 x13 x14 (x8 != 1) x185000 x185001 x185002 x185003 x185004) else (mootref4_Follow.j2 k x7 x9 x12 x13 x14 false x185000 x185001 x185002 x185003 x185004))))) else (if x7 = 1 then (mootref4_Follow.j2 k x7 x9 x12 x13 x14 (x8 != 1) x185000 x185001 x185002 x185003 x185004) else (if x7 = 4 then (mootref4_Follow.j2 k x7 x9 x12 x13 x14 (x8 != 1) x185000 x185001 x185002 x185003 x185004) else (if x7 = 6 then (mootref4_Follow.j2 k x7 x9 x12 x13 x14 (x8 != 1) x185000 x185001 x185002 x185003 x185004) else (mootref4_Follow.j2 k x7 x9 x12 x13 x14 false x185000 x185001 x185002 x185003 x185004)))))) else (mootref4_Follow.j2 k x7 x9 x12 x13 x14 true x185000 x185001 x185002 x185003 x185004)) else (if x7 = 3 then (if x8 = 2 then (if x7 = 5 then (if x8 = 1 then (if x7 = 1 then (mootref4_Follow.j2 k x7 x9 x12 x13 x14 (x8 != 1) x185000 x185001 x185002 x185003 x185004) else (if x7 = 4 then (mootref4_Follow.j2 k x7 x9 x12 x13 x14 (x8 != 1) x185000 x185001 x185002 x185003 x185004) else (if x7 = 6 then (mootref4_Follow.j2 k x7 x9 x12 x13 x14 (x8 != 1) x185000 x185001 x185002 x185003 x185004) else (mootref4_Follow.j2 k x7 x9 x12 x13 x14 false x185000 x185001 x185002 x185003 x185004)))) else (if x7 = 1 then (mootref4_Follow.j2 k x7 x9 x12 x13 x14 (x8 != 1) x185000 x185001 x185002 x185003 x185004) else (if x7 = 4 then (mootref4_Follow.j2 k x7 x9 x12 x13 x14 (x8 != 1) x185000 x185001 x185002 x185003 x185004) else (if x7 = 6 then (mootref4_Follow.j2 k x7 x9 x12 x13 x14 (x8 != 1) x185000 x185001 x185002 x185003 x185004) else (mootref4_Follow.j2 k x7 x9 x12 x13 x14 false x185000 x185001 x185002 x185003 x185004))))) else (if x7 = 1 then (mootref4_Follow.j2 k x7 x9 x12 x13 x14 (x8 != 1) x185000 x185001 x185002 x185003 x185004) else (if x7 = 4 then (mootref4_Follow.j2 k x7 x9 x12 x13 x14 (x8 != 1) x185000 x185001 x185002 x185003 x185004) else (if x7 = 6 then (mootref4_Follow.j2 k x7 x9 x12 x13 x14 (x8 != 1) x185000 x185001 x185002 x185003 x185004) else (mootref4_Follow.j2 k x7 x9 x12 x13 x14 false x185000 x185001 x185002 x185003 x185004))))) else (mootref4_Follow.j2 k x7 x9 x12 x13 x14 true x185000 x185001 x185002 x185003 x185004)) else (if x7 = 5 then (if x8 = 1 then (if x7 = 1 then (mootref4_Follow.j2 k x7 x9 x12 x13 x14 (x8 != 1) x185000 x185001 x185002 x185003 x185004) else (if x7 = 4 then (mootref4_Follow.j2 k x7 x9 x12 x13 x14 (x8 != 1) x185000 x185001 x185002 x185003 x185004) else (if x7 = 6 then (mootref4_Follow.j2 k x7 x9 x12 x13 x14 (x8 != 1) x185000 x185001 x185002 x185003 x185004) else (mootref4_Follow.j2 k x7 x9 x12 x13 x14 false x185000 x185001 x185002 x185003 x185004)))) else (if x8 = 2 then (if x7 = 1 then (mootref4_Follow.j2 k x7 x9 x12 x13 x14 (x8 != 1) x185000 x185001 x185002 x185003 x185004) else (if x7 = 4 then (mootref4_Follow.j2 k x7 x9 x12 x13 x14 (x8 != 1) x185000 x185001 x185002 x185003 x185004) else (if x7 = 6 then (mootref4_Follow.j2 k x7 x9 x12 x13 x14 (x8 != 1) x185000 x185001 x185002 x185003 x185004) else (mootref4_Follow.j2 k x7 x9 x12 x13 x14 false x185000 x185001 x185002 x185003 x185004)))) else (mootref4_Follow.j2 k x7 x9 x12 x13 x14 true x185000 x185001 x185002 x185003 x185004))) else (if x7 = 1 then (mootref4_Follow.j2 k x7 x9 x12 x13 x14 (x8 != 1) x185000 x185001 x185002 x185003 x185004) else (if x7 = 4 then (mootref4_Follow.j2 k x7 x9 x12 x13 x14 (x8 != 1) x185000 x185001 x185002 x185003 x185004) else (if x7 = 6 then (mootref4_Follow.j2 k x7 x9 x12 x13 x14 (x8 != 1) x185000 x185001 x185002 x185003 x185004) else (mootref4_Follow.j2 k x7 x9 x12 x13 x14 false x185000 x185001 x185002 x185003 x185004)))))))
def mootref4_Follow.j2 : Nat → Int → Int → List (S73) → Int → Int → Bool → Int → Int → Int → Int → Int → Option (Int × Int × Int × Int × Int × Int)
 | 0, _, _, _, _, _, _, _, _, _, _, _ => none
 | k + 1, x7, x9, x12, x13, x14, x80, x185000, x185001, x185002, x185003, x185004 => if x80 = true then (some (0, 0, 0, 0, 0, 19)) else (if x185000 = 0 then (mootref4_Follow.j3 k x7 x9 x12 x13 x14 false x185000 x185001 x185002 x185003 x185004) else (mootref4_Follow.j3 k x7 x9 x12 x13 x14 (decide (x9 < x185001)) x185000 x185001 x185002 x185003 x185004))
def mootref4_Follow.j3 : Nat → Int → Int → List (S73) → Int → Int → Bool → Int → Int → Int → Int → Int → Option (Int × Int × Int × Int × Int × Int)
 | 0, _, _, _, _, _, _, _, _, _, _, _ => none
 | k + 1, x7, x9, x12, x13, x14, x90, x185000, x185001, x185002, x185003, x185004 => if x90 = true then (some (0, 0, 0, 0, 0, 9)) else ((mootref4_Course_Later.f k x185000 x185001 x185002 x185003 x185004 x9).bind fun bt187 => ((maplit41.f x7 bt187.1).bind fun t192 => (if t192 = 0 then (some (0, 0, 0, 0, 0, 7)) else (if x7 = 5 then ((day_Months.f k bt187.2.2.2.1 48).bind fun t193 => (mootref4_Follow.j4 k x7 x9 t192 x12 x13 x14 (decide (x9 > t193)) bt187.1 bt187.2.1 bt187.2.2.1 bt187.2.2.2.1 bt187.2.2.2.2)) else (mootref4_Follow.j4 k x7 x9 t192 x12 x13 x14 false bt187.1 bt187.2.1 bt187.2.2.1 bt187.2.2.2.1 bt187.2.2.2.2)))))
def mootref4_Follow.j4 : Nat → Int → Int → Int → List (S73) → Int → Int → Bool → Int → Int → Int → Int → Int → Option (Int × Int × Int × Int × Int × Int)
 | 0, _, _, _, _, _, _, _, _, _, _, _, _ => none
 | k + 1, x7, x9, x10, x12, x13, x14, x124, x185000, x185001, x185002, x185003, x185004 => if x124 = true then (some (0, 0, 0, 0, 0, 18)) else (if x7 = 1 then (mootref4_Follow.l0 k x12 x13 (wrap64 (x14 + 1)) x10 x9 x9 (-1) 0) else (if x7 = 3 then (mootref4_Follow.l0 k x12 x13 (wrap64 (x14 + 1)) x10 x9 x185002 x9 (wrap64 (x185004 + 1))) else (if x7 = 4 then (mootref4_Follow.l0 k x12 x13 (wrap64 (x14 + 1)) x10 x9 x9 x185003 x185004) else (if x7 = 5 then (mootref4_Follow.l0 k x12 x13 (wrap64 (x14 + 1)) x10 x9 x9 x185003 x185004) else (mootref4_Follow.l0 k x12 x13 (wrap64 (x14 + 1)) x10 x9 x185002 x185003 x185004)))))
end
def mootref4_Follow.f (k : Nat) (l0 : List (S73)) : Option (Int × Int × Int × Int × Int × Int) := mootref4_Follow.l0 k l0 (l0.length : Int) 0 0 0 0 0 0
theorem mootref4_Follow.mono_l : ∀ k, (∀ y0 y1 y2 y3 y4 y5 y6 y7, LeO (mootref4_Follow.l0 k y0 y1 y2 y3 y4 y5 y6 y7) (mootref4_Follow.l0 (k + 1) y0 y1 y2 y3 y4 y5 y6 y7)) ∧ (∀ y0 y1 y2 y3 y4 y5 y6 y7 y8 y9 y10 y11, LeO (mootref4_Follow.j1 k y0 y1 y2 y3 y4 y5 y6 y7 y8 y9 y10 y11) (mootref4_Follow.j1 (k + 1) y0 y1 y2 y3 y4 y5 y6 y7 y8 y9 y10 y11)) ∧ (∀ y0 y1 y2 y3 y4 y5 y6 y7 y8 y9 y10, LeO (mootref4_Follow.j2 k y0 y1 y2 y3 y4 y5 y6 y7 y8 y9 y10) (mootref4_Follow.j2 (k + 1) y0 y1 y2 y3 y4 y5 y6 y7 y8 y9 y10)) ∧ (∀ y0 y1 y2 y3 y4 y5 y6 y7 y8 y9 y10, LeO (mootref4_Follow.j3 k y0 y1 y2 y3 y4 y5 y6 y7 y8 y9 y10) (mootref4_Follow.j3 (k + 1) y0 y1 y2 y3 y4 y5 y6 y7 y8 y9 y10)) ∧ (∀ y0 y1 y2 y3 y4 y5 y6 y7 y8 y9 y10 y11, LeO (mootref4_Follow.j4 k y0 y1 y2 y3 y4 y5 y6 y7 y8 y9 y10 y11) (mootref4_Follow.j4 (k + 1) y0 y1 y2 y3 y4 y5 y6 y7 y8 y9 y10 y11))
 | 0 => ⟨fun _ _ _ _ _ _ _ _ r h => by simp [mootref4_Follow.l0] at h, fun _ _ _ _ _ _ _ _ _ _ _ _ r h => by simp [mootref4_Follow.j1] at h, fun _ _ _ _ _ _ _ _ _ _ _ r h => by simp [mootref4_Follow.j2] at h, fun _ _ _ _ _ _ _ _ _ _ _ r h => by simp [mootref4_Follow.j3] at h, fun _ _ _ _ _ _ _ _ _ _ _ _ r h => by simp [mootref4_Follow.j4] at h⟩
 | k + 1 => by
  obtain ⟨ih0, ih1, ih2, ih3, ih4⟩ := mootref4_Follow.mono_l k
  refine ⟨?_, ?_, ?_, ?_, ?_⟩
  ·
   intro y0 y1 y2 y3 y4 y5 y6 y7
   unfold mootref4_Follow.l0
   repeat' first
   | (with_reducible exact ih0 _ _ _ _ _ _ _ _)
   | (with_reducible exact ih1 _ _ _ _ _ _ _ _ _ _ _ _)
   | (with_reducible exact ih2 _ _ _ _ _ _ _ _ _ _ _)
   | (with_reducible exact ih3 _ _ _ _ _ _ _ _ _ _ _)
   | (with_reducible exact ih4 _ _ _ _ _ _ _ _ _ _ _ _)
   | (with_reducible exact day_Months.mono _ _ _)
   | (with_reducible exact mootref4_Course_Later.mono _ _ _ _ _ _ _)
   | (with_reducible exact LeO.refl _)
   | (with_reducible exact LeO.none _)
   | (with_reducible refine LeO.ite ?_ ?_)
   | (with_reducible refine LeO.bind ?_ (fun _ => ?_))
   | exact ih0 _ _ _ _ _ _ _ _
   | exact ih1 _ _ _ _ _ _ _ _ _ _ _ _
   | exact ih2 _ _ _ _ _ _ _ _ _ _ _
   | exact ih3 _ _ _ _ _ _ _ _ _ _ _
   | exact ih4 _ _ _ _ _ _ _ _ _ _ _ _
   | exact day_Months.mono _ _ _
   | exact mootref4_Course_Later.mono _ _ _ _ _ _ _
   | exact LeO.none _
   | refine LeO.ite ?_ ?_
   | refine LeO.bind ?_ (fun _ => ?_)
  ·
   intro y0 y1 y2 y3 y4 y5 y6 y7 y8 y9 y10 y11
   unfold mootref4_Follow.j1
   repeat' first
   | (with_reducible exact ih0 _ _ _ _ _ _ _ _)
   | (with_reducible exact ih1 _ _ _ _ _ _ _ _ _ _ _ _)
   | (with_reducible exact ih2 _ _ _ _ _ _ _ _ _ _ _)
   | (with_reducible exact ih3 _ _ _ _ _ _ _ _ _ _ _)
   | (with_reducible exact ih4 _ _ _ _ _ _ _ _ _ _ _ _)
   | (with_reducible exact day_Months.mono _ _ _)
   | (with_reducible exact mootref4_Course_Later.mono _ _ _ _ _ _ _)
   | (with_reducible exact LeO.refl _)
   | (with_reducible exact LeO.none _)
   | (with_reducible refine LeO.ite ?_ ?_)
   | (with_reducible refine LeO.bind ?_ (fun _ => ?_))
   | exact ih0 _ _ _ _ _ _ _ _
   | exact ih1 _ _ _ _ _ _ _ _ _ _ _ _
   | exact ih2 _ _ _ _ _ _ _ _ _ _ _
   | exact ih3 _ _ _ _ _ _ _ _ _ _ _
   | exact ih4 _ _ _ _ _ _ _ _ _ _ _ _
   | exact day_Months.mono _ _ _
   | exact mootref4_Course_Later.mono _ _ _ _ _ _ _
   | exact LeO.none _
   | refine LeO.ite ?_ ?_
   | refine LeO.bind ?_ (fun _ => ?_)
  ·
   intro y0 y1 y2 y3 y4 y5 y6 y7 y8 y9 y10
   unfold mootref4_Follow.j2
   repeat' first
   | (with_reducible exact ih0 _ _ _ _ _ _ _ _)
   | (with_reducible exact ih1 _ _ _ _ _ _ _ _ _ _ _ _)
   | (with_reducible exact ih2 _ _ _ _ _ _ _ _ _ _ _)
   | (with_reducible exact ih3 _ _ _ _ _ _ _ _ _ _ _)
   | (with_reducible exact ih4 _ _ _ _ _ _ _ _ _ _ _ _)
   | (with_reducible exact day_Months.mono _ _ _)
   | (with_reducible exact mootref4_Course_Later.mono _ _ _ _ _ _ _)
   | (with_reducible exact LeO.refl _)
   | (with_reducible exact LeO.none _)
   | (with_reducible refine LeO.ite ?_ ?_)
   | (with_reducible refine LeO.bind ?_ (fun _ => ?_))
   | exact ih0 _ _ _ _ _ _ _ _
   | exact ih1 _ _ _ _ _ _ _ _ _ _ _ _
   | exact ih2 _ _ _ _ _ _ _ _ _ _ _
   | exact ih3 _ _ _ _ _ _ _ _ _ _ _
   | exact ih4 _ _ _ _ _ _ _ _ _ _ _ _
   | exact day_Months.mono _ _ _
   | exact mootref4_Course_Later.mono _ _ _ _ _ _ _
   | exact LeO.none _
   | refine LeO.ite ?_ ?_
   | refine LeO.bind ?_ (fun _ => ?_)
  ·
   intro y0 y1 y2 y3 y4 y5 y6 y7 y8 y9 y10
   unfold mootref4_Follow.j3
   repeat' first
   | (with_reducible exact ih0 _ _ _ _ _ _ _ _)
   | (with_reducible exact ih1 _ _ _ _ _ _ _ _ _ _ _ _)
   | (with_reducible exact ih2 _ _ _ _ _ _ _ _ _ _ _)
   | (with_reducible exact ih3 _ _ _ _ _ _ _ _ _ _ _)
   | (with_reducible exact ih4 _ _ _ _ _ _ _ _ _ _ _ _)
   | (with_reducible exact day_Months.mono _ _ _)
   | (with_reducible exact mootref4_Course_Later.mono _ _ _ _ _ _ _)
   | (with_reducible exact LeO.refl _)
   | (with_reducible exact LeO.none _)
   | (with_reducible refine LeO.ite ?_ ?_)
   | (with_reducible refine LeO.bind ?_ (fun _ => ?_))
   | exact ih0 _ _ _ _ _ _ _ _
   | exact ih1 _ _ _ _ _ _ _ _ _ _ _ _
   | exact ih2 _ _ _ _ _ _ _ _ _ _ _
   | exact ih3 _ _ _ _ _ _ _ _ _ _ _
   | exact ih4 _ _ _ _ _ _ _ _ _ _ _ _
   | exact day_Months.mono _ _ _
   | exact mootref4_Course_Later.mono _ _ _ _ _ _ _
   | exact LeO.none _
   | refine LeO.ite ?_ ?_
   | refine LeO.bind ?_ (fun _ => ?_)
  ·
   intro y0 y1 y2 y3 y4 y5 y6 y7 y8 y9 y10 y11
   unfold mootref4_Follow.j4
   repeat' first
   | (with_reducible exact ih0 _ _ _ _ _ _ _ _)
   | (with_reducible exact ih1 _ _ _ _ _ _ _ _ _ _ _ _)
   | (with_reducible exact ih2 _ _ _ _ _ _ _ _ _ _ _)
   | (with_reducible exact ih3 _ _ _ _ _ _ _ _ _ _ _)
   | (with_reducible exact ih4 _ _ _ _ _ _ _ _ _ _ _ _)
   | (with_reducible exact day_Months.mono _ _ _)
   | (with_reducible exact mootref4_Course_Later.mono _ _ _ _ _ _ _)
   | (with_reducible exact LeO.refl _)
   | (with_reducible exact LeO.none _)
   | (with_reducible refine LeO.ite ?_ ?_)
   | (with_reducible refine LeO.bind ?_ (fun _ => ?_))
   | exact ih0 _ _ _ _ _ _ _ _
   | exact ih1 _ _ _ _ _ _ _ _ _ _ _ _
   | exact ih2 _ _ _ _ _ _ _ _ _ _ _
   | exact ih3 _ _ _ _ _ _ _ _ _ _ _
   | exact ih4 _ _ _ _ _ _ _ _ _ _ _ _
   | exact day_Months.mono _ _ _
   | exact mootref4_Course_Later.mono _ _ _ _ _ _ _
   | exact LeO.none _
   | refine LeO.ite ?_ ?_
   | refine LeO.bind ?_ (fun _ => ?_)
theorem mootref4_Follow.mono : ∀ a0 k, LeO (mootref4_Follow.f k a0) (mootref4_Follow.f (k + 1) a0) := by
 intro a0 k
 obtain ⟨ih0, ih1, ih2, ih3, ih4⟩ := mootref4_Follow.mono_l k
 unfold mootref4_Follow.f
 repeat' first
   | (with_reducible exact ih0 _ _ _ _ _ _ _ _)
   | (with_reducible exact ih1 _ _ _ _ _ _ _ _ _ _ _ _)
   | (with_reducible exact ih2 _ _ _ _ _ _ _ _ _ _ _)
   | (with_reducible exact ih3 _ _ _ _ _ _ _ _ _ _ _)
   | (with_reducible exact ih4 _ _ _ _ _ _ _ _ _ _ _ _)
   | (with_reducible exact day_Months.mono _ _ _)
   | (with_reducible exact mootref4_Course_Later.mono _ _ _ _ _ _ _)
   | (with_reducible exact LeO.refl _)
   | (with_reducible exact LeO.none _)
   | (with_reducible refine LeO.ite ?_ ?_)
   | (with_reducible refine LeO.bind ?_ (fun _ => ?_))
   | exact ih0 _ _ _ _ _ _ _ _
   | exact ih1 _ _ _ _ _ _ _ _ _ _ _ _
   | exact ih2 _ _ _ _ _ _ _ _ _ _ _
   | exact ih3 _ _ _ _ _ _ _ _ _ _ _
   | exact ih4 _ _ _ _ _ _ _ _ _ _ _ _
   | exact day_Months.mono _ _ _
   | exact mootref4_Course_Later.mono _ _ _ _ _ _ _
   | exact LeO.none _
   | refine LeO.ite ?_ ?_
   | refine LeO.bind ?_ (fun _ => ?_)
set_option maxHeartbeats 100000000 in
set_option maxRecDepth 100000 in
theorem mootref4_Follow.calls (k : Nat) (A0 : Option Addr) (c0 : Nat) (l0 : List (S73)) (r1 : Int) (r2 : Int) (r3 : Int) (r4 : Int) (r5 : Int) (r6 : Int) (w : World) (hr0 : Kd.C k73 w A0 l0.length l0) (hc0 : l0.length ≤ c0) (h : mootref4_Follow.f k l0 = some (r1, r2, r3, r4, r5, r6)) :
  Calls Try.prog 41 #[.slice A0 l0.length c0] w fun e w' => e = .returned (.tuple #[.agg #[.int .i64 r1, .int .i64 r2, .int .i64 r3, .int .i64 r4, .int .i64 r5], .int .i64 r6]) ∧ Below w.heap.size w w' := by
 have hu74 := Try.underlying74
 have hu73 := Try.underlying73
 have HR0 := Aside0.mk hr0
 have HC0 := Aside0.mk hc0
 clear hr0 hc0
 have HB := Aside0.mk (Below.refl w.heap.size w)
 have H : (mootref4_Follow.l0 k l0 (l0.length : Int) 0 0 0 0 0 0) = some (r1, r2, r3, r4, r5, r6) := h
 clear h
 have H' := Aside0.mk H
 clear H
 go_enter Try.func41, Try.ntmps41
 go_wp2_with (first | ((with_reducible refine gate_dst (N := 2) rfl ?_); refine box_event ?hg (N := 2) ?hd (cs := #[.int .i64 0, .int .i64 0, .int .i64 0, .int .i64 0, .int .i64 0]) (t := 74) ?hr ?_; (case hd => rfl); (case hg => rfl); (case hr => first | (go_simp; done) | (go_simp; rfl)); intro gb183 hg w2 hbox hb; have n0_ := Aside0.mk (below_step (by repeat (first | (with_reducible first | exact HB.out | apply below_alloc | apply pw_below_drewN | apply below_drew1) | exact HB.out)) hb); have n1_ := Aside0.mk (hbox); have n2_ := Aside0.mk ((by rw [hg]; exact (below_size (by repeat (first | (with_reducible first | exact HB.out | apply below_alloc | apply pw_below_drewN | apply below_drew1) | exact HB.out))) : w.heap.size ≤ gb183)); have n3_ := Aside0.mk ((by rw [hg]; exact (below_size (by repeat (first | (with_reducible first | exact HB.out | apply below_alloc | apply pw_below_drewN | apply below_drew1) | exact HB.out))) : w.heap.size ≤ gb183)); clear HB; have HB := n0_; have BK183 := n1_; have GW183 := n2_; have GE183 := n3_; clear n0_ n1_ n2_ n3_; clear hb hbox hg) | ((with_reducible refine gate_dst (N := 4) rfl ?_); refine box_event ?hg (N := 4) ?hd (cs := #[.int .i64 0, .int .i64 0, .int .i64 0, .int .i64 0, .int .i64 0]) (t := 74) ?hr ?_; (case hd => rfl); (case hg => rfl); (case hr => first | (go_simp; done) | (go_simp; rfl)); intro gb184 hg w3 hbox hb; have n0_ := Aside0.mk (blk_below (g := gb183) (o := .cells #[.int .i64 0, .int .i64 0, .int .i64 0, .int .i64 0, .int .i64 0] 74 (0, 0)) (by (with_reducible repeat (first | refine blk_drewN ?_ _ | refine blk_drew ?_ | refine blk_alloc ?_ _)); exact BK183.out) hb); have n1_ := Aside0.mk (below_step (by repeat (first | (with_reducible first | exact HB.out | apply below_alloc | apply pw_below_drewN | apply below_drew1 | refine below_set ?_ GE183.out) | exact HB.out)) hb); have n2_ := Aside0.mk (hbox); have n3_ := Aside0.mk ((by rw [hg]; exact (below_size (by repeat (first | (with_reducible first | exact HB.out | apply below_alloc | apply pw_below_drewN | apply below_drew1 | refine below_set ?_ GE183.out) | exact HB.out))) : w.heap.size ≤ gb184)); have n4_ := Aside0.mk ((by rw [hg]; exact (below_size (by repeat (first | (with_reducible first | exact HB.out | apply below_alloc | apply pw_below_drewN | apply below_drew1 | refine below_set ?_ GE183.out) | exact HB.out))) : w.heap.size ≤ gb184)); have n5_ := Aside0.mk ((by rw [hg]; exact Nat.ne_of_lt (blk_lt (g := gb183) (o := .cells #[.int .i64 0, .int .i64 0, .int .i64 0, .int .i64 0, .int .i64 0] 74 (0, 0)) (by (with_reducible repeat (first | refine blk_drewN ?_ _ | refine blk_drew ?_ | refine blk_alloc ?_ _)); exact BK183.out)) : gb183 ≠ gb184)); have n6_ := Aside0.mk ((by rw [hg]; exact Nat.ne_of_gt (blk_lt (g := gb183) (o := .cells #[.int .i64 0, .int .i64 0, .int .i64 0, .int .i64 0, .int .i64 0] 74 (0, 0)) (by (with_reducible repeat (first | refine blk_drewN ?_ _ | refine blk_drew ?_ | refine blk_alloc ?_ _)); exact BK183.out)) : gb184 ≠ gb183)); clear BK183; clear HB; have BK183 := n0_; have HB := n1_; have BK184 := n2_; have GW184 := n3_; have GE184 := n4_; have NB183_184 := n5_; have NB184_183 := n6_; clear n0_ n1_ n2_ n3_ n4_ n5_ n6_; clear hb hbox hg; have hnb4 := NB184_183.out; have hnc4 := NB183_184.out; have hcz5_0 : w3.cell? ⟨gb184, 0, none⟩ = some (.int .i64 0) := (blk_cell BK184.out 0).trans rfl; have hcz5_1 : w3.cell? ⟨gb184, 1, none⟩ = some (.int .i64 0) := (blk_cell BK184.out 1).trans rfl; have hcz5_2 : w3.cell? ⟨gb184, 2, none⟩ = some (.int .i64 0) := (blk_cell BK184.out 2).trans rfl; have hcz5_3 : w3.cell? ⟨gb184, 3, none⟩ = some (.int .i64 0) := (blk_cell BK184.out 3).trans rfl; have hcz5_4 : w3.cell? ⟨gb184, 4, none⟩ = some (.int .i64 0) := (blk_cell BK184.out 4).trans rfl; have hfz5_0 := blk_frozen BK184.out 0; have hfz5_1 := blk_frozen BK184.out 1; have hfz5_2 := blk_frozen BK184.out 2; have hfz5_3 := blk_frozen BK184.out 3; have hfz5_4 := blk_frozen BK184.out 4))
 repeat (go_quiet (fail); try go_wp2)
 go_loopg [14] k (fun kq v14 w' => ∃ (x14_1 : Int) (x184000_1 : Int) (x184001_1 : Int) (x184002_1 : Int) (x184003_1 : Int) (x184004_1 : Int) (x185000_1 : Int) (x185001_1 : Int) (x185002_1 : Int) (x185003_1 : Int) (x185004_1 : Int), v14 = .int .i64 x14_1 ∧ Aside0 (mootref4_Follow.l0 kq l0 (l0.length : Int) x14_1 x185000_1 x185001_1 x185002_1 x185003_1 x185004_1 = some (r1, r2, r3, r4, r5, r6)) ∧ Aside0 (kq ≤ k) ∧ Aside0 (w'.heap[gb183]? = some (.cells #[.int .i64 x184000_1, .int .i64 x184001_1, .int .i64 x184002_1, .int .i64 x184003_1, .int .i64 x184004_1] 74 (0, 0))) ∧ Aside0 (w'.heap[gb184]? = some (.cells #[.int .i64 x185000_1, .int .i64 x185001_1, .int .i64 x185002_1, .int .i64 x185003_1, .int .i64 x185004_1] 74 (0, 0))) ∧ Aside0 (Below w.heap.size w w'))
 case atStart => exact ⟨(0), (0), (0), (0), (0), (0), (0), (0), (0), (0), (0), (by first | rfl | (simp; done) | (simp [*]; done)), H', ⟨Nat.le_refl _⟩, ⟨by (with_reducible repeat (first | refine blk_drewN ?_ _ | refine blk_drew ?_ | refine blk_alloc ?_ _)); refine blk_far ?_ NB183_184.out _; (with_reducible repeat (first | refine blk_drewN ?_ _ | refine blk_drew ?_ | refine blk_alloc ?_ _)); refine blk_far ?_ NB183_184.out _; (with_reducible repeat (first | refine blk_drewN ?_ _ | refine blk_drew ?_ | refine blk_alloc ?_ _)); refine blk_far ?_ NB183_184.out _; (with_reducible repeat (first | refine blk_drewN ?_ _ | refine blk_drew ?_ | refine blk_alloc ?_ _)); refine blk_far ?_ NB183_184.out _; (with_reducible repeat (first | refine blk_drewN ?_ _ | refine blk_drew ?_ | refine blk_alloc ?_ _)); refine blk_far ?_ NB183_184.out _; (with_reducible repeat (first | refine blk_drewN ?_ _ | refine blk_drew ?_ | refine blk_alloc ?_ _)); exact BK183.out⟩, ⟨by (with_reducible repeat (first | refine blk_drewN ?_ _ | refine blk_drew ?_ | refine blk_alloc ?_ _)); refine blk_put (cs := #[.int .i64 0, .int .i64 0, .int .i64 0, .int .i64 0, .int .i64 0]) ?_ 4 _ rfl; (with_reducible repeat (first | refine blk_drewN ?_ _ | refine blk_drew ?_ | refine blk_alloc ?_ _)); refine blk_put (cs := #[.int .i64 0, .int .i64 0, .int .i64 0, .int .i64 0, .int .i64 0]) ?_ 3 _ rfl; (with_reducible repeat (first | refine blk_drewN ?_ _ | refine blk_drew ?_ | refine blk_alloc ?_ _)); refine blk_put (cs := #[.int .i64 0, .int .i64 0, .int .i64 0, .int .i64 0, .int .i64 0]) ?_ 2 _ rfl; (with_reducible repeat (first | refine blk_drewN ?_ _ | refine blk_drew ?_ | refine blk_alloc ?_ _)); refine blk_put (cs := #[.int .i64 0, .int .i64 0, .int .i64 0, .int .i64 0, .int .i64 0]) ?_ 1 _ rfl; (with_reducible repeat (first | refine blk_drewN ?_ _ | refine blk_drew ?_ | refine blk_alloc ?_ _)); refine blk_put (cs := #[.int .i64 0, .int .i64 0, .int .i64 0, .int .i64 0, .int .i64 0]) ?_ 0 _ rfl; (with_reducible repeat (first | refine blk_drewN ?_ _ | refine blk_drew ?_ | refine blk_alloc ?_ _)); exact BK184.out⟩, ⟨by repeat (first | (with_reducible first | exact HB.out | apply below_alloc | apply pw_below_drewN | apply below_drew1 | refine below_set ?_ GE183.out | refine below_set ?_ GE184.out) | exact HB.out)⟩⟩
 case round =>
  clear H'
  try clear p2
  try clear c4
  try clear hcz5_0 hcz5_1 hcz5_2 hcz5_3 hcz5_4
  try clear hfz5_0 hfz5_1 hfz5_2 hfz5_3 hfz5_4
  obtain ⟨x14_1, x184000_1, x184001_1, x184002_1, x184003_1, x184004_1, x185000_1, x185001_1, x185002_1, x185003_1, x185004_1, rfl, HA, HK1, BK183, BK184, HB⟩ := hrel
  cases gk with
  | zero => exact absurd HA.out (by simp [mootref4_Follow.l0])
  | succ k1 =>
   have H := HA.out
   clear HA
   simp only [mootref4_Follow.l0] at H
   by_cases c6 : x14_1 < (l0.length : Int)
   ·
    rw [if_pos c6] at H
    have c6b0 : decide (x14_1 < (l0.length : Int)) = true := decide_eq_true c6
    clear c6
    by_cases c7 : 0 ≤ x14_1
    rotate_left
    ·
     rw [if_neg c7] at H
     exact absurd H (by simp)
    rw [if_pos c7] at H
    have c7b0 : decide (0 ≤ x14_1) = true := decide_eq_true c7
    clear c7
    by_cases c8 : x14_1 < (l0.length : Int)
    rotate_left
    ·
     rw [if_neg c8] at H
     exact absurd H (by simp)
    rw [if_pos c8] at H
    have c8b0 : decide (x14_1 < (l0.length : Int)) = true := decide_eq_true c8
    clear c8
    have HC9 := Aside0.mk H
    clear H
    have p185 : 0 ≤ (x14_1 : Int) := of_decide_eq_true (by first | (with_reducible assumption) | assumption)
    have q185 : x14_1 < (l0.length : Int) := of_decide_eq_true (by first | (with_reducible assumption) | assumption)
    obtain ⟨ad185, e185, hx185_0, hx185_1, hx185_2⟩ := at_T73 HR0.out x14_1 p185 q185
    cases e185
    replace hx185_0 := (HB.out.cell (World.block_lt_of_cell? w _ hx185_0)).trans hx185_0
    replace hx185_1 := (HB.out.cell (World.block_lt_of_cell? w _ hx185_1)).trans hx185_1
    replace hx185_2 := (HB.out.cell (World.block_lt_of_cell? w _ hx185_2)).trans hx185_2
    replace p185 := eq_true p185
    replace q185 := eq_true q185
    go_upto_region 6 with (first | ((with_reducible refine gate_dst (N := 6) rfl ?_); refine box_event ?hg (N := 6) ?hd (cs := #[.int .i64 0, .int .i64 0, .int .i64 0]) (t := 73) ?hr ?_; (case hd => rfl); (case hg => rfl); (case hr => first | (go_simp; done) | (go_simp; rfl)); intro gb186 hg w10 hbox hb; have n0_ := Aside0.mk (blk_below (g := gb183) (o := .cells #[.int .i64 x184000_1, .int .i64 x184001_1, .int .i64 x184002_1, .int .i64 x184003_1, .int .i64 x184004_1] 74 (0, 0)) (by (with_reducible repeat (first | refine blk_drewN ?_ _ | refine blk_drew ?_ | refine blk_alloc ?_ _)); exact BK183.out) hb); have n1_ := Aside0.mk (blk_below (g := gb184) (o := .cells #[.int .i64 x185000_1, .int .i64 x185001_1, .int .i64 x185002_1, .int .i64 x185003_1, .int .i64 x185004_1] 74 (0, 0)) (by (with_reducible repeat (first | refine blk_drewN ?_ _ | refine blk_drew ?_ | refine blk_alloc ?_ _)); exact BK184.out) hb); have n2_ := Aside0.mk (below_step (by repeat (first | (with_reducible first | exact HB.out | apply below_alloc | apply pw_below_drewN | apply below_drew1 | refine below_set ?_ GE183.out | refine below_set ?_ GE184.out) | exact HB.out)) hb); have n3_ := Aside0.mk (hbox); have n4_ := Aside0.mk ((by rw [hg]; exact (below_size (by repeat (first | (with_reducible first | exact HB.out | apply below_alloc | apply pw_below_drewN | apply below_drew1 | refine below_set ?_ GE183.out | refine below_set ?_ GE184.out) | exact HB.out))) : w.heap.size ≤ gb186)); have n5_ := Aside0.mk ((by rw [hg]; exact (below_size (by repeat (first | (with_reducible first | exact HB.out | apply below_alloc | apply pw_below_drewN | apply below_drew1 | refine below_set ?_ GE183.out | refine below_set ?_ GE184.out) | exact HB.out))) : w.heap.size ≤ gb186)); have n6_ := Aside0.mk ((by rw [hg]; exact Nat.ne_of_lt (blk_lt (g := gb183) (o := .cells #[.int .i64 x184000_1, .int .i64 x184001_1, .int .i64 x184002_1, .int .i64 x184003_1, .int .i64 x184004_1] 74 (0, 0)) (by (with_reducible repeat (first | refine blk_drewN ?_ _ | refine blk_drew ?_ | refine blk_alloc ?_ _)); exact BK183.out)) : gb183 ≠ gb186)); have n7_ := Aside0.mk ((by rw [hg]; exact Nat.ne_of_gt (blk_lt (g := gb183) (o := .cells #[.int .i64 x184000_1, .int .i64 x184001_1, .int .i64 x184002_1, .int .i64 x184003_1, .int .i64 x184004_1] 74 (0, 0)) (by (with_reducible repeat (first | refine blk_drewN ?_ _ | refine blk_drew ?_ | refine blk_alloc ?_ _)); exact BK183.out)) : gb186 ≠ gb183)); have n8_ := Aside0.mk ((by rw [hg]; exact Nat.ne_of_lt (blk_lt (g := gb184) (o := .cells #[.int .i64 x185000_1, .int .i64 x185001_1, .int .i64 x185002_1, .int .i64 x185003_1, .int .i64 x185004_1] 74 (0, 0)) (by (with_reducible repeat (first | refine blk_drewN ?_ _ | refine blk_drew ?_ | refine blk_alloc ?_ _)); exact BK184.out)) : gb184 ≠ gb186)); have n9_ := Aside0.mk ((by rw [hg]; exact Nat.ne_of_gt (blk_lt (g := gb184) (o := .cells #[.int .i64 x185000_1, .int .i64 x185001_1, .int .i64 x185002_1, .int .i64 x185003_1, .int .i64 x185004_1] 74 (0, 0)) (by (with_reducible repeat (first | refine blk_drewN ?_ _ | refine blk_drew ?_ | refine blk_alloc ?_ _)); exact BK184.out)) : gb186 ≠ gb184)); clear BK183; clear BK184; clear HB; have BK183 := n0_; have BK184 := n1_; have HB := n2_; have BK186 := n3_; have GW186 := n4_; have GE186 := n5_; have NB183_186 := n6_; have NB186_183 := n7_; have NB184_186 := n8_; have NB186_184 := n9_; clear n0_ n1_ n2_ n3_ n4_ n5_ n6_ n7_ n8_ n9_; clear hb hbox hg; have hnb11 := NB186_183.out; have hnc11 := NB183_186.out; have hnb12 := NB186_184.out; have hnc12 := NB184_186.out; have hcz13_0 : w10.cell? ⟨gb186, 0, none⟩ = some (.int .i64 0) := (blk_cell BK186.out 0).trans rfl; have hcz13_1 : w10.cell? ⟨gb186, 1, none⟩ = some (.int .i64 0) := (blk_cell BK186.out 1).trans rfl; have hcz13_2 : w10.cell? ⟨gb186, 2, none⟩ = some (.int .i64 0) := (blk_cell BK186.out 2).trans rfl; have hfz13_0 := blk_frozen BK186.out 0; have hfz13_1 := blk_frozen BK186.out 1; have hfz13_2 := blk_frozen BK186.out 2))
    repeat (go_quiet (first | ((with_reducible refine gate_dst (N := 6) rfl ?_); refine box_event ?hg (N := 6) ?hd (cs := #[.int .i64 0, .int .i64 0, .int .i64 0]) (t := 73) ?hr ?_; (case hd => rfl); (case hg => rfl); (case hr => first | (go_simp; done) | (go_simp; rfl)); intro gb186 hg w10 hbox hb; have n0_ := Aside0.mk (blk_below (g := gb183) (o := .cells #[.int .i64 x184000_1, .int .i64 x184001_1, .int .i64 x184002_1, .int .i64 x184003_1, .int .i64 x184004_1] 74 (0, 0)) (by (with_reducible repeat (first | refine blk_drewN ?_ _ | refine blk_drew ?_ | refine blk_alloc ?_ _)); exact BK183.out) hb); have n1_ := Aside0.mk (blk_below (g := gb184) (o := .cells #[.int .i64 x185000_1, .int .i64 x185001_1, .int .i64 x185002_1, .int .i64 x185003_1, .int .i64 x185004_1] 74 (0, 0)) (by (with_reducible repeat (first | refine blk_drewN ?_ _ | refine blk_drew ?_ | refine blk_alloc ?_ _)); exact BK184.out) hb); have n2_ := Aside0.mk (below_step (by repeat (first | (with_reducible first | exact HB.out | apply below_alloc | apply pw_below_drewN | apply below_drew1 | refine below_set ?_ GE183.out | refine below_set ?_ GE184.out) | exact HB.out)) hb); have n3_ := Aside0.mk (hbox); have n4_ := Aside0.mk ((by rw [hg]; exact (below_size (by repeat (first | (with_reducible first | exact HB.out | apply below_alloc | apply pw_below_drewN | apply below_drew1 | refine below_set ?_ GE183.out | refine below_set ?_ GE184.out) | exact HB.out))) : w.heap.size ≤ gb186)); have n5_ := Aside0.mk ((by rw [hg]; exact (below_size (by repeat (first | (with_reducible first | exact HB.out | apply below_alloc | apply pw_below_drewN | apply below_drew1 | refine below_set ?_ GE183.out | refine below_set ?_ GE184.out) | exact HB.out))) : w.heap.size ≤ gb186)); have n6_ := Aside0.mk ((by rw [hg]; exact Nat.ne_of_lt (blk_lt (g := gb183) (o := .cells #[.int .i64 x184000_1, .int .i64 x184001_1, .int .i64 x184002_1, .int .i64 x184003_1, .int .i64 x184004_1] 74 (0, 0)) (by (with_reducible repeat (first | refine blk_drewN ?_ _ | refine blk_drew ?_ | refine blk_alloc ?_ _)); exact BK183.out)) : gb183 ≠ gb186)); have n7_ := Aside0.mk ((by rw [hg]; exact Nat.ne_of_gt (blk_lt (g := gb183) (o := .cells #[.int .i64 x184000_1, .int .i64 x184001_1, .int .i64 x184002_1, .int .i64 x184003_1, .int .i64 x184004_1] 74 (0, 0)) (by (with_reducible repeat (first | refine blk_drewN ?_ _ | refine blk_drew ?_ | refine blk_alloc ?_ _)); exact BK183.out)) : gb186 ≠ gb183)); have n8_ := Aside0.mk ((by rw [hg]; exact Nat.ne_of_lt (blk_lt (g := gb184) (o := .cells #[.int .i64 x185000_1, .int .i64 x185001_1, .int .i64 x185002_1, .int .i64 x185003_1, .int .i64 x185004_1] 74 (0, 0)) (by (with_reducible repeat (first | refine blk_drewN ?_ _ | refine blk_drew ?_ | refine blk_alloc ?_ _)); exact BK184.out)) : gb184 ≠ gb186)); have n9_ := Aside0.mk ((by rw [hg]; exact Nat.ne_of_gt (blk_lt (g := gb184) (o := .cells #[.int .i64 x185000_1, .int .i64 x185001_1, .int .i64 x185002_1, .int .i64 x185003_1, .int .i64 x185004_1] 74 (0, 0)) (by (with_reducible repeat (first | refine blk_drewN ?_ _ | refine blk_drew ?_ | refine blk_alloc ?_ _)); exact BK184.out)) : gb186 ≠ gb184)); clear BK183; clear BK184; clear HB; have BK183 := n0_; have BK184 := n1_; have HB := n2_; have BK186 := n3_; have GW186 := n4_; have GE186 := n5_; have NB183_186 := n6_; have NB186_183 := n7_; have NB184_186 := n8_; have NB186_184 := n9_; clear n0_ n1_ n2_ n3_ n4_ n5_ n6_ n7_ n8_ n9_; clear hb hbox hg; have hnb11 := NB186_183.out; have hnc11 := NB183_186.out; have hnb12 := NB186_184.out; have hnc12 := NB184_186.out; have hcz13_0 : w10.cell? ⟨gb186, 0, none⟩ = some (.int .i64 0) := (blk_cell BK186.out 0).trans rfl; have hcz13_1 : w10.cell? ⟨gb186, 1, none⟩ = some (.int .i64 0) := (blk_cell BK186.out 1).trans rfl; have hcz13_2 : w10.cell? ⟨gb186, 2, none⟩ = some (.int .i64 0) := (blk_cell BK186.out 2).trans rfl; have hfz13_0 := blk_frozen BK186.out 0; have hfz13_1 := blk_frozen BK186.out 1; have hfz13_2 := blk_frozen BK186.out 2)); go_upto_region 6 with (fail))
    (try simp only [Act.put, List.setIfInBounds_toArray, List.set_cons_zero, List.set_cons_succ])
    go_cut [37] (fun v37 wc => ∃ (kq : Nat) (x37_8 : Bool), v37 = .bool x37_8 ∧ Aside0 (mootref4_Follow.j1 kq ((rd_T73 l0 x14_1).f0) ((rd_T73 l0 x14_1).f1) ((rd_T73 l0 x14_1).f2) l0 (l0.length : Int) x14_1 x37_8 x185000_1 x185001_1 x185002_1 x185003_1 x185004_1 = some (r1, r2, r3, r4, r5, r6)) ∧ Aside0 (kq ≤ k1) ∧ Aside0 (wc.heap[gb183]? = some (.cells #[.int .i64 x184000_1, .int .i64 x184001_1, .int .i64 x184002_1, .int .i64 x184003_1, .int .i64 x184004_1] 74 (0, 0))) ∧ Aside0 (wc.heap[gb184]? = some (.cells #[.int .i64 x185000_1, .int .i64 x185001_1, .int .i64 x185002_1, .int .i64 x185003_1, .int .i64 x185004_1] 74 (0, 0))) ∧ Aside0 (wc.heap[gb186]? = some (.cells #[.int .i64 ((rd_T73 l0 x14_1).f0), .int .i64 ((rd_T73 l0 x14_1).f1), .int .i64 ((rd_T73 l0 x14_1).f2)] 73 (0, 0))) ∧ Aside0 (Below w.heap.size w wc))
    case first =>
     have H := HC9.out
     clear HC9
     by_cases c14 : ((rd_T73 l0 x14_1).f0) < 1
     ·
      rw [if_pos c14] at H
      have c14b0 : decide (((rd_T73 l0 x14_1).f0) < 1) = true := decide_eq_true c14
      clear c14
      (first | rw [c14b0] | (simp only [i64_w, i32_w]; rw [c14b0]) | skip)
      have H' := Aside0.mk H
      clear H
      go_wp2
      repeat (go_quiet (fail); try go_wp2)
      go_meet
      case rel => exact ⟨_, (true), (by first | rfl | (simp; done) | (simp [*]; done)), H', ⟨by have := HK1.out; first | omega | exact Nat.le_refl _⟩, ⟨by (with_reducible repeat (first | refine blk_drewN ?_ _ | refine blk_drew ?_ | refine blk_alloc ?_ _)); refine blk_far ?_ NB183_186.out _; (with_reducible repeat (first | refine blk_drewN ?_ _ | refine blk_drew ?_ | refine blk_alloc ?_ _)); refine blk_far ?_ NB183_186.out _; (with_reducible repeat (first | refine blk_drewN ?_ _ | refine blk_drew ?_ | refine blk_alloc ?_ _)); refine blk_far ?_ NB183_186.out _; (with_reducible repeat (first | refine blk_drewN ?_ _ | refine blk_drew ?_ | refine blk_alloc ?_ _)); exact BK183.out⟩, ⟨by (with_reducible repeat (first | refine blk_drewN ?_ _ | refine blk_drew ?_ | refine blk_alloc ?_ _)); refine blk_far ?_ NB184_186.out _; (with_reducible repeat (first | refine blk_drewN ?_ _ | refine blk_drew ?_ | refine blk_alloc ?_ _)); refine blk_far ?_ NB184_186.out _; (with_reducible repeat (first | refine blk_drewN ?_ _ | refine blk_drew ?_ | refine blk_alloc ?_ _)); refine blk_far ?_ NB184_186.out _; (with_reducible repeat (first | refine blk_drewN ?_ _ | refine blk_drew ?_ | refine blk_alloc ?_ _)); exact BK184.out⟩, ⟨by (with_reducible repeat (first | refine blk_drewN ?_ _ | refine blk_drew ?_ | refine blk_alloc ?_ _)); refine blk_put (cs := #[.int .i64 ((rd_T73 l0 x14_1).f0), .int .i64 ((rd_T73 l0 x14_1).f1), .int .i64 0]) ?_ 2 _ rfl; (with_reducible repeat (first | refine blk_drewN ?_ _ | refine blk_drew ?_ | refine blk_alloc ?_ _)); refine blk_put (cs := #[.int .i64 ((rd_T73 l0 x14_1).f0), .int .i64 0, .int .i64 0]) ?_ 1 _ rfl; (with_reducible repeat (first | refine blk_drewN ?_ _ | refine blk_drew ?_ | refine blk_alloc ?_ _)); refine blk_put (cs := #[.int .i64 0, .int .i64 0, .int .i64 0]) ?_ 0 _ rfl; (with_reducible repeat (first | refine blk_drewN ?_ _ | refine blk_drew ?_ | refine blk_alloc ?_ _)); exact BK186.out⟩, ⟨by repeat (first | (with_reducible first | exact HB.out | apply below_alloc | apply pw_below_drewN | apply below_drew1 | refine below_set ?_ GE183.out | refine below_set ?_ GE184.out | refine below_set ?_ GE186.out) | exact HB.out)⟩⟩
     ·
      rw [if_neg c14] at H
      have c14b0 : decide (((rd_T73 l0 x14_1).f0) < 1) = false := decide_eq_false c14
      clear c14
      (first | rw [c14b0] | (simp only [i64_w, i32_w]; rw [c14b0]) | skip)
      by_cases c15 : ((rd_T73 l0 x14_1).f0) > 6
      ·
       rw [if_pos c15] at H
       have c15b0 : decide (6 < ((rd_T73 l0 x14_1).f0)) = true := decide_eq_true c15
       clear c15
       have H' := Aside0.mk H
       clear H
       go_wp2
       repeat (go_quiet (fail); try go_wp2)
       go_meet
       case rel => exact ⟨_, (true), (by first | rfl | (simp; done) | (simp [*]; done)), H', ⟨by have := HK1.out; first | omega | exact Nat.le_refl _⟩, ⟨by (with_reducible repeat (first | refine blk_drewN ?_ _ | refine blk_drew ?_ | refine blk_alloc ?_ _)); refine blk_far ?_ NB183_186.out _; (with_reducible repeat (first | refine blk_drewN ?_ _ | refine blk_drew ?_ | refine blk_alloc ?_ _)); refine blk_far ?_ NB183_186.out _; (with_reducible repeat (first | refine blk_drewN ?_ _ | refine blk_drew ?_ | refine blk_alloc ?_ _)); refine blk_far ?_ NB183_186.out _; (with_reducible repeat (first | refine blk_drewN ?_ _ | refine blk_drew ?_ | refine blk_alloc ?_ _)); exact BK183.out⟩, ⟨by (with_reducible repeat (first | refine blk_drewN ?_ _ | refine blk_drew ?_ | refine blk_alloc ?_ _)); refine blk_far ?_ NB184_186.out _; (with_reducible repeat (first | refine blk_drewN ?_ _ | refine blk_drew ?_ | refine blk_alloc ?_ _)); refine blk_far ?_ NB184_186.out _; (with_reducible repeat (first | refine blk_drewN ?_ _ | refine blk_drew ?_ | refine blk_alloc ?_ _)); refine blk_far ?_ NB184_186.out _; (with_reducible repeat (first | refine blk_drewN ?_ _ | refine blk_drew ?_ | refine blk_alloc ?_ _)); exact BK184.out⟩, ⟨by (with_reducible repeat (first | refine blk_drewN ?_ _ | refine blk_drew ?_ | refine blk_alloc ?_ _)); refine blk_put (cs := #[.int .i64 ((rd_T73 l0 x14_1).f0), .int .i64 ((rd_T73 l0 x14_1).f1), .int .i64 0]) ?_ 2 _ rfl; (with_reducible repeat (first | refine blk_drewN ?_ _ | refine blk_drew ?_ | refine blk_alloc ?_ _)); refine blk_put (cs := #[.int .i64 ((rd_T73 l0 x14_1).f0), .int .i64 0, .int .i64 0]) ?_ 1 _ rfl; (with_reducible repeat (first | refine blk_drewN ?_ _ | refine blk_drew ?_ | refine blk_alloc ?_ _)); refine blk_put (cs := #[.int .i64 0, .int .i64 0, .int .i64 0]) ?_ 0 _ rfl; (with_reducible repeat (first | refine blk_drewN ?_ _ | refine blk_drew ?_ | refine blk_alloc ?_ _)); exact BK186.out⟩, ⟨by repeat (first | (with_reducible first | exact HB.out | apply below_alloc | apply pw_below_drewN | apply below_drew1 | refine below_set ?_ GE183.out | refine below_set ?_ GE184.out | refine below_set ?_ GE186.out) | exact HB.out)⟩⟩
      ·
       rw [if_neg c15] at H
       have c15b0 : decide (6 < ((rd_T73 l0 x14_1).f0)) = false := decide_eq_false c15
       clear c15
       by_cases c16 : ((rd_T73 l0 x14_1).f2) < 0
       ·
        rw [if_pos c16] at H
        have c16b0 : decide (((rd_T73 l0 x14_1).f2) < 0) = true := decide_eq_true c16
        clear c16
        have H' := Aside0.mk H
        clear H
        go_wp2
        repeat (go_quiet (fail); try go_wp2)
        go_meet
        case rel => exact ⟨_, (true), (by first | rfl | (simp; done) | (simp [*]; done)), H', ⟨by have := HK1.out; first | omega | exact Nat.le_refl _⟩, ⟨by (with_reducible repeat (first | refine blk_drewN ?_ _ | refine blk_drew ?_ | refine blk_alloc ?_ _)); refine blk_far ?_ NB183_186.out _; (with_reducible repeat (first | refine blk_drewN ?_ _ | refine blk_drew ?_ | refine blk_alloc ?_ _)); refine blk_far ?_ NB183_186.out _; (with_reducible repeat (first | refine blk_drewN ?_ _ | refine blk_drew ?_ | refine blk_alloc ?_ _)); refine blk_far ?_ NB183_186.out _; (with_reducible repeat (first | refine blk_drewN ?_ _ | refine blk_drew ?_ | refine blk_alloc ?_ _)); exact BK183.out⟩, ⟨by (with_reducible repeat (first | refine blk_drewN ?_ _ | refine blk_drew ?_ | refine blk_alloc ?_ _)); refine blk_far ?_ NB184_186.out _; (with_reducible repeat (first | refine blk_drewN ?_ _ | refine blk_drew ?_ | refine blk_alloc ?_ _)); refine blk_far ?_ NB184_186.out _; (with_reducible repeat (first | refine blk_drewN ?_ _ | refine blk_drew ?_ | refine blk_alloc ?_ _)); refine blk_far ?_ NB184_186.out _; (with_reducible repeat (first | refine blk_drewN ?_ _ | refine blk_drew ?_ | refine blk_alloc ?_ _)); exact BK184.out⟩, ⟨by (with_reducible repeat (first | refine blk_drewN ?_ _ | refine blk_drew ?_ | refine blk_alloc ?_ _)); refine blk_put (cs := #[.int .i64 ((rd_T73 l0 x14_1).f0), .int .i64 ((rd_T73 l0 x14_1).f1), .int .i64 0]) ?_ 2 _ rfl; (with_reducible repeat (first | refine blk_drewN ?_ _ | refine blk_drew ?_ | refine blk_alloc ?_ _)); refine blk_put (cs := #[.int .i64 ((rd_T73 l0 x14_1).f0), .int .i64 0, .int .i64 0]) ?_ 1 _ rfl; (with_reducible repeat (first | refine blk_drewN ?_ _ | refine blk_drew ?_ | refine blk_alloc ?_ _)); refine blk_put (cs := #[.int .i64 0, .int .i64 0, .int .i64 0]) ?_ 0 _ rfl; (with_reducible repeat (first | refine blk_drewN ?_ _ | refine blk_drew ?_ | refine blk_alloc ?_ _)); exact BK186.out⟩, ⟨by repeat (first | (with_reducible first | exact HB.out | apply below_alloc | apply pw_below_drewN | apply below_drew1 | refine below_set ?_ GE183.out | refine below_set ?_ GE184.out | refine below_set ?_ GE186.out) | exact HB.out)⟩⟩
       ·
        rw [if_neg c16] at H
        have c16b0 : decide (((rd_T73 l0 x14_1).f2) < 0) = false := decide_eq_false c16
        clear c16
        have H' := Aside0.mk H
        clear H
        go_wp2
        repeat (go_quiet (fail); try go_wp2)
        go_meet
        case rel => exact ⟨_, (decide (((rd_T73 l0 x14_1).f2) > 1048575)), (by first | rfl | (simp; done) | (simp [*]; done)), H', ⟨by have := HK1.out; first | omega | exact Nat.le_refl _⟩, ⟨by (with_reducible repeat (first | refine blk_drewN ?_ _ | refine blk_drew ?_ | refine blk_alloc ?_ _)); refine blk_far ?_ NB183_186.out _; (with_reducible repeat (first | refine blk_drewN ?_ _ | refine blk_drew ?_ | refine blk_alloc ?_ _)); refine blk_far ?_ NB183_186.out _; (with_reducible repeat (first | refine blk_drewN ?_ _ | refine blk_drew ?_ | refine blk_alloc ?_ _)); refine blk_far ?_ NB183_186.out _; (with_reducible repeat (first | refine blk_drewN ?_ _ | refine blk_drew ?_ | refine blk_alloc ?_ _)); exact BK183.out⟩, ⟨by (with_reducible repeat (first | refine blk_drewN ?_ _ | refine blk_drew ?_ | refine blk_alloc ?_ _)); refine blk_far ?_ NB184_186.out _; (with_reducible repeat (first | refine blk_drewN ?_ _ | refine blk_drew ?_ | refine blk_alloc ?_ _)); refine blk_far ?_ NB184_186.out _; (with_reducible repeat (first | refine blk_drewN ?_ _ | refine blk_drew ?_ | refine blk_alloc ?_ _)); refine blk_far ?_ NB184_186.out _; (with_reducible repeat (first | refine blk_drewN ?_ _ | refine blk_drew ?_ | refine blk_alloc ?_ _)); exact BK184.out⟩, ⟨by (with_reducible repeat (first | refine blk_drewN ?_ _ | refine blk_drew ?_ | refine blk_alloc ?_ _)); refine blk_put (cs := #[.int .i64 ((rd_T73 l0 x14_1).f0), .int .i64 ((rd_T73 l0 x14_1).f1), .int .i64 0]) ?_ 2 _ rfl; (with_reducible repeat (first | refine blk_drewN ?_ _ | refine blk_drew ?_ | refine blk_alloc ?_ _)); refine blk_put (cs := #[.int .i64 ((rd_T73 l0 x14_1).f0), .int .i64 0, .int .i64 0]) ?_ 1 _ rfl; (with_reducible repeat (first | refine blk_drewN ?_ _ | refine blk_drew ?_ | refine blk_alloc ?_ _)); refine blk_put (cs := #[.int .i64 0, .int .i64 0, .int .i64 0]) ?_ 0 _ rfl; (with_reducible repeat (first | refine blk_drewN ?_ _ | refine blk_drew ?_ | refine blk_alloc ?_ _)); exact BK186.out⟩, ⟨by repeat (first | (with_reducible first | exact HB.out | apply below_alloc | apply pw_below_drewN | apply below_drew1 | refine below_set ?_ GE183.out | refine below_set ?_ GE184.out | refine below_set ?_ GE186.out) | exact HB.out)⟩⟩
    case rest =>
     clear HC9
     try clear c1
     try clear p1
     try clear q1
     try clear hx1
     try clear p2
     try clear c4
     try clear c6
     try clear c6b0
     try clear c7
     try clear c7b0
     try clear c8
     try clear c8b0
     try clear c11
     try clear c12
     try clear c14
     try clear c14b0
     try clear c15
     try clear c15b0
     try clear c16
     try clear c16b0
     try clear hcz13_0 hcz13_1 hcz13_2
     try clear hcz5_0 hcz5_1 hcz5_2 hcz5_3 hcz5_4
     try clear hfz13_0 hfz13_1 hfz13_2
     try clear hfz5_0 hfz5_1 hfz5_2 hfz5_3 hfz5_4
     try clear hx185_0
     try clear hx185_1
     try clear hx185_2
     try clear p185
     try clear p2
     try clear q185
     obtain ⟨kq, x37_8, rfl, HA, HJ8, BK183, BK184, BK186, HB⟩ := hcut
     cases kq with
     | zero => exact absurd HA.out (by simp [mootref4_Follow.j1])
     | succ kj8 =>
      have H := HA.out
      clear HA
      simp only [mootref4_Follow.j1] at H
      by_cases c17 : x37_8 = true
      ·
       subst c17
       have H1 : (some (0, 0, 0, 0, 0, 1)) = some (r1, r2, r3, r4, r5, r6) := by rw [if_pos rfl] at H; exact H
       clear H
       have H := H1
       clear H1
       simp only [Option.some.injEq, Prod.mk.injEq] at H
       obtain ⟨rfl, rfl, rfl, rfl, rfl, rfl⟩ := H
       have hnb18 := NB183_184.out
       have hnc18 := NB184_183.out
       have hnb19 := NB183_186.out
       have hnc19 := NB186_183.out
       have hcz20_0 : wc.cell? ⟨gb183, 0, none⟩ = some (.int .i64 x184000_1) := (blk_cell BK183.out 0).trans rfl
       have hcz20_1 : wc.cell? ⟨gb183, 1, none⟩ = some (.int .i64 x184001_1) := (blk_cell BK183.out 1).trans rfl
       have hcz20_2 : wc.cell? ⟨gb183, 2, none⟩ = some (.int .i64 x184002_1) := (blk_cell BK183.out 2).trans rfl
       have hcz20_3 : wc.cell? ⟨gb183, 3, none⟩ = some (.int .i64 x184003_1) := (blk_cell BK183.out 3).trans rfl
       have hcz20_4 : wc.cell? ⟨gb183, 4, none⟩ = some (.int .i64 x184004_1) := (blk_cell BK183.out 4).trans rfl
       have hfz20_0 := blk_frozen BK183.out 0
       have hfz20_1 := blk_frozen BK183.out 1
       have hfz20_2 := blk_frozen BK183.out 2
       have hfz20_3 := blk_frozen BK183.out 3
       have hfz20_4 := blk_frozen BK183.out 4
       go_wp2
       repeat (go_quiet (fail); try go_wp2)
       refine bodyPost_ret (results_ct rfl _ _ gb183 74 #[.int .i64 0, .int .i64 0, .int .i64 0, .int .i64 0, .int .i64 0] (0, 0) _ rfl (by (with_reducible repeat (first | refine blk_drewN ?_ _ | refine blk_drew ?_ | refine blk_alloc ?_ _)); refine blk_put (cs := #[.int .i64 0, .int .i64 0, .int .i64 0, .int .i64 0, .int .i64 x184004_1]) ?_ 4 _ rfl; (with_reducible repeat (first | refine blk_drewN ?_ _ | refine blk_drew ?_ | refine blk_alloc ?_ _)); refine blk_put (cs := #[.int .i64 0, .int .i64 0, .int .i64 0, .int .i64 x184003_1, .int .i64 x184004_1]) ?_ 3 _ rfl; (with_reducible repeat (first | refine blk_drewN ?_ _ | refine blk_drew ?_ | refine blk_alloc ?_ _)); refine blk_put (cs := #[.int .i64 0, .int .i64 0, .int .i64 x184002_1, .int .i64 x184003_1, .int .i64 x184004_1]) ?_ 2 _ rfl; (with_reducible repeat (first | refine blk_drewN ?_ _ | refine blk_drew ?_ | refine blk_alloc ?_ _)); refine blk_put (cs := #[.int .i64 0, .int .i64 x184001_1, .int .i64 x184002_1, .int .i64 x184003_1, .int .i64 x184004_1]) ?_ 1 _ rfl; (with_reducible repeat (first | refine blk_drewN ?_ _ | refine blk_drew ?_ | refine blk_alloc ?_ _)); refine blk_put (cs := #[.int .i64 x184000_1, .int .i64 x184001_1, .int .i64 x184002_1, .int .i64 x184003_1, .int .i64 x184004_1]) ?_ 0 _ rfl; (with_reducible repeat (first | refine blk_drewN ?_ _ | refine blk_drew ?_ | refine blk_alloc ?_ _)); exact BK183.out) Try.underlying74 rfl (by kernel_rfl)) rfl ?_
       exact ⟨by first | rfl | (simp [errW_none, errW_some] <;> rfl) | (simp [*, errW_none, errW_some] <;> rfl), by repeat (first | (with_reducible first | exact HB.out | apply below_alloc | apply pw_below_drewN | apply below_drew1 | refine below_set ?_ GE183.out | refine below_set ?_ GE184.out | refine below_set ?_ GE186.out) | exact HB.out)⟩
      ·
       replace c17 := Bool.eq_false_iff.mpr c17
       subst c17
       have H1 : (if ((rd_T73 l0 x14_1).f0) = 2 then (if ((rd_T73 l0 x14_1).f1) = 2 then (if ((rd_T73 l0 x14_1).f0) = 3 then (if ((rd_T73 l0 x14_1).f0) = 5 then (if ((rd_T73 l0 x14_1).f1) = 1 then (if ((rd_T73 l0 x14_1).f0) = 1 then (mootref4_Follow.j2 kj8 ((rd_T73 l0 x14_1).f0) ((rd_T73 l0 x14_1).f2) l0 (l0.length : Int) x14_1 (((rd_T73 l0 x14_1).f1) != 1) x185000_1 x185001_1 x185002_1 x185003_1 x185004_1) else (if ((rd_T73 l0 x14_1).f0) = 4 then (mootref4_Follow.j2 kj8 ((rd_T73 l0 x14_1).f0) ((rd_T73 l0 x14_1).f2) l0 (l0.length : Int) x14_1 (((rd_T73 l0 x14_1).f1) != 1) x185000_1 x185001_1 x185002_1 x185003_1 x185004_1) else (if ((rd_T73 l0 x14_1).f0) = 6 then (mootref4_Follow.j2 kj8 ((rd_T73 l0 x14_1).f0) ((rd_T73 l0 x14_1).f2) l0 (l0.length : Int) x14_1 (((rd_T73 l0 x14_1).f1) != 1) x185000_1 x185001_1 x185002_1 x185003_1 x185004_1) else (mootref4_Follow.j2 kj8 ((rd_T73 l0 x14_1).f0) ((rd_T73 l0 x14_1).f2) l0 (l0.length : Int) x14_1 false x185000_1 x185001_1 x185002_1 x185003_1 x185004_1)))) else (if ((rd_T73 l0 x14_1).f0) = 1 then (mootref4_Follow.j2 kj8 ((rd_T73 l0 x14_1).f0) ((rd_T73 l0 x14_1).f2) l0 (l0.length : Int) x14_1 (((rd_T73 l0 x14_1).f1) != 1) x185000_1 x185001_1 x185002_1 x185003_1 x185004_1) else (if ((rd_T73 l0 x14_1).f0) = 4 then (mootref4_Follow.j2 kj8 ((rd_T73 l0 x14_1).f0) ((rd_T73 l0 x14_1).f2) l0 (l0.length : Int) x14_1 (((rd_T73 l0 x14_1).f1) != 1) x185000_1 x185001_1 x185002_1 x185003_1 x185004_1) else (if ((rd_T73 l0 x14_1).f0) = 6 then (mootref4_Follow.j2 kj8 ((rd_T73 l0 x14_1).f0) ((rd_T73 l0 x14_1).f2) l0 (l0.length : Int) x14_1 (((rd_T73 l0 x14_1).f1) != 1) x185000_1 x185001_1 x185002_1 x185003_1 x185004_1) else (mootref4_Follow.j2 kj8 ((rd_T73 l0 x14_1).f0) ((rd_T73 l0 x14_1).f2) l0 (l0.length : Int) x14_1 false x185000_1 x185001_1 x185002_1 x185003_1 x185004_1))))) else (if ((rd_T73 l0 x14_1).f0) = 1 then (mootref4_Follow.j2 kj8 ((rd_T73 l0 x14_1).f0) ((rd_T73 l0 x14_1).f2) l0 (l0.length : Int) x14_1 (((rd_T73 l0 x14_1).f1) != 1) x185000_1 x185001_1 x185002_1 x185003_1 x185004_1) else (if ((rd_T73 l0 x14_1).f0) = 4 then (mootref4_Follow.j2 kj8 ((rd_T73 l0 x14_1).f0) ((rd_T73 l0 x14_1).f2) l0 (l0.length : Int) x14_1 (((rd_T73 l0 x14_1).f1) != 1) x185000_1 x185001_1 x185002_1 x185003_1 x185004_1) else (if ((rd_T73 l0 x14_1).f0) = 6 then (mootref4_Follow.j2 kj8 ((rd_T73 l0 x14_1).f0) ((rd_T73 l0 x14_1).f2) l0 (l0.length : Int) x14_1 (((rd_T73 l0 x14_1).f1) != 1) x185000_1 x185001_1 x185002_1 x185003_1 x185004_1) else (mootref4_Follow.j2 kj8 ((rd_T73 l0 x14_1).f0) ((rd_T73 l0 x14_1).f2) l0 (l0.length : Int) x14_1 false x185000_1 x185001_1 x185002_1 x185003_1 x185004_1))))) else (if ((rd_T73 l0 x14_1).f0) = 5 then (if ((rd_T73 l0 x14_1).f1) = 1 then (if ((rd_T73 l0 x14_1).f0) = 1 then (mootref4_Follow.j2 kj8 ((rd_T73 l0 x14_1).f0) ((rd_T73 l0 x14_1).f2) l0 (l0.length : Int) x14_1 (((rd_T73 l0 x14_1).f1) != 1) x185000_1 x185001_1 x185002_1 x185003_1 x185004_1) else (if ((rd_T73 l0 x14_1).f0) = 4 then (mootref4_Follow.j2 kj8 ((rd_T73 l0 x14_1).f0) ((rd_T73 l0 x14_1).f2) l0 (l0.length : Int) x14_1 (((rd_T73 l0 x14_1).f1) != 1) x185000_1 x185001_1 x185002_1 x185003_1 x185004_1) else (if ((rd_T73 l0 x14_1).f0) = 6 then (mootref4_Follow.j2 kj8 ((rd_T73 l0 x14_1).f0) ((rd_T73 l0 x14_1).f2) l0 (l0.length : Int) x14_1 (((rd_T73 l0 x14_1).f1) != 1) x185000_1 x185001_1 x185002_1 x185003_1 x185004_1) else (mootref4_Follow.j2 kj8 ((rd_T73 l0 x14_1).f0) ((rd_T73 l0 x14_1).f2) l0 (l0.length : Int) x14_1 false x185000_1 x185001_1 x185002_1 x185003_1 x185004_1)))) else (if ((rd_T73 l0 x14_1).f0) = 1 then (mootref4_Follow.j2 kj8 ((rd_T73 l0 x14_1).f0) ((rd_T73 l0 x14_1).f2) l0 (l0.length : Int) x14_1 (((rd_T73 l0 x14_1).f1) != 1) x185000_1 x185001_1 x185002_1 x185003_1 x185004_1) else (if ((rd_T73 l0 x14_1).f0) = 4 then (mootref4_Follow.j2 kj8 ((rd_T73 l0 x14_1).f0) ((rd_T73 l0 x14_1).f2) l0 (l0.length : Int) x14_1 (((rd_T73 l0 x14_1).f1) != 1) x185000_1 x185001_1 x185002_1 x185003_1 x185004_1) else (if ((rd_T73 l0 x14_1).f0) = 6 then (mootref4_Follow.j2 kj8 ((rd_T73 l0 x14_1).f0) ((rd_T73 l0 x14_1).f2) l0 (l0.length : Int) x14_1 (((rd_T73 l0 x14_1).f1) != 1) x185000_1 x185001_1 x185002_1 x185003_1 x185004_1) else (mootref4_Follow.j2 kj8 ((rd_T73 l0 x14_1).f0) ((rd_T73 l0 x14_1).f2) l0 (l0.length : Int) x14_1 false x185000_1 x185001_1 x185002_1 x185003_1 x185004_1))))) else (if ((rd_T73 l0 x14_1).f0) = 1 then (mootref4_Follow.j2 kj8 ((rd_T73 l0 x14_1).f0) ((rd_T73 l0 x14_1).f2) l0 (l0.length : Int) x14_1 (((rd_T73 l0 x14_1).f1) != 1) x185000_1 x185001_1 x185002_1 x185003_1 x185004_1) else (if ((rd_T73 l0 x14_1).f0) = 4 then (mootref4_Follow.j2 kj8 ((rd_T73 l0 x14_1).f0) ((rd_T73 l0 x14_1).f2) l0 (l0.length : Int) x14_1 (((rd_T73 l0 x14_1).f1) != 1) x185000_1 x185001_1 x185002_1 x185003_1 x185004_1) else (if ((rd_T73 l0 x14_1).f0) = 6 then (mootref4_Follow.j2 kj8 ((rd_T73 l0 x14_1).f0) ((rd_T73 l0 x14_1).f2) l0 (l0.length : Int) x14_1 (((rd_T73 l0 x14_1).f1) != 1) x185000_1 x185001_1 x185002_1 x185003_1 x185004_1) else (mootref4_Follow.j2 kj8 ((rd_T73 l0 x14_1).f0) ((rd_T73 l0 x14_1).f2) l0 (l0.length : Int) x14_1 false x185000_1 x185001_1 x185002_1 x185003_1 x185004_1)))))) else (mootref4_Follow.j2 kj8 ((rd_T73 l0 x14_1).f0) ((rd_T73 l0 x14_1).f2) l0 (l0.length : Int) x14_1 true x185000_1 x185001_1 x185002_1 x185003_1 x185004_1)) else (if ((rd_T73 l0 x14_1).f0) = 3 then (if ((rd_T73 l0 x14_1).f1) = 2 then (if ((rd_T73 l0 x14_1).f0) = 5 then (if ((rd_T73 l0 x14_1).f1) = 1 then (if ((rd_T73 l0 x14_1).f0) = 1 then (mootref4_Follow.j2 kj8 ((rd_T73 l0 x14_1).f0) ((rd_T73 l0 x14_1).f2) l0 (l0.length : Int) x14_1 (((rd_T73 l0 x14_1).f1) != 1) x185000_1 x185001_1 x185002_1 x185003_1 x185004_1) else (if ((rd_T73 l0 x14_1).f0) = 4 then (mootref4_Follow.j2 kj8 ((rd_T73 l0 x14_1).f0) ((rd_T73 l0 x14_1).f2) l0 (l0.length : Int) x14_1 (((rd_T73 l0 x14_1).f1) != 1) x185000_1 x185001_1 x185002_1 x185003_1 x185004_1) else (if ((rd_T73 l0 x14_1).f0) = 6 then (mootref4_Follow.j2 kj8 ((rd_T73 l0 x14_1).f0) ((rd_T73 l0 x14_1).f2) l0 (l0.length : Int) x14_1 (((rd_T73 l0 x14_1).f1) != 1) x185000_1 x185001_1 x185002_1 x185003_1 x185004_1) else (mootref4_Follow.j2 kj8 ((rd_T73 l0 x14_1).f0) ((rd_T73 l0 x14_1).f2) l0 (l0.length : Int) x14_1 false x185000_1 x185001_1 x185002_1 x185003_1 x185004_1)))) else (if ((rd_T73 l0 x14_1).f0) = 1 then (mootref4_Follow.j2 kj8 ((rd_T73 l0 x14_1).f0) ((rd_T73 l0 x14_1).f2) l0 (l0.length : Int) x14_1 (((rd_T73 l0 x14_1).f1) != 1) x185000_1 x185001_1 x185002_1 x185003_1 x185004_1) else (if ((rd_T73 l0 x14_1).f0) = 4 then (mootref4_Follow.j2 kj8 ((rd_T73 l0 x14_1).f0) ((rd_T73 l0 x14_1).f2) l0 (l0.length : Int) x14_1 (((rd_T73 l0 x14_1).f1) != 1) x185000_1 x185001_1 x185002_1 x185003_1 x185004_1) else (if ((rd_T73 l0 x14_1).f0) = 6 then (mootref4_Follow.j2 kj8 ((rd_T73 l0 x14_1).f0) ((rd_T73 l0 x14_1).f2) l0 (l0.length : Int) x14_1 (((rd_T73 l0 x14_1).f1) != 1) x185000_1 x185001_1 x185002_1 x185003_1 x185004_1) else (mootref4_Follow.j2 kj8 ((rd_T73 l0 x14_1).f0) ((rd_T73 l0 x14_1).f2) l0 (l0.length : Int) x14_1 false x185000_1 x185001_1 x185002_1 x185003_1 x185004_1))))) else (if ((rd_T73 l0 x14_1).f0) = 1 then (mootref4_Follow.j2 kj8 ((rd_T73 l0 x14_1).f0) ((rd_T73 l0 x14_1).f2) l0 (l0.length : Int) x14_1 (((rd_T73 l0 x14_1).f1) != 1) x185000_1 x185001_1 x185002_1 x185003_1 x185004_1) else (if ((rd_T73 l0 x14_1).f0) = 4 then (mootref4_Follow.j2 kj8 ((rd_T73 l0 x14_1).f0) ((rd_T73 l0 x14_1).f2) l0 (l0.length : Int) x14_1 (((rd_T73 l0 x14_1).f1) != 1) x185000_1 x185001_1 x185002_1 x185003_1 x185004_1) else (if ((rd_T73 l0 x14_1).f0) = 6 then (mootref4_Follow.j2 kj8 ((rd_T73 l0 x14_1).f0) ((rd_T73 l0 x14_1).f2) l0 (l0.length : Int) x14_1 (((rd_T73 l0 x14_1).f1) != 1) x185000_1 x185001_1 x185002_1 x185003_1 x185004_1) else (mootref4_Follow.j2 kj8 ((rd_T73 l0 x14_1).f0) ((rd_T73 l0 x14_1).f2) l0 (l0.length : Int) x14_1 false x185000_1 x185001_1 x185002_1 x185003_1 x185004_1))))) else (mootref4_Follow.j2 kj8 ((rd_T73 l0 x14_1).f0) ((rd_T73 l0 x14_1).f2) l0 (l0.length : Int) x14_1 true x185000_1 x185001_1 x185002_1 x185003_1 x185004_1)) else (if ((rd_T73 l0 x14_1).f0) = 5 then (if ((rd_T73 l0 x14_1).f1) = 1 then (if ((rd_T73 l0 x14_1).f0) = 1 then (mootref4_Follow.j2 kj8 ((rd_T73 l0 x14_1).f0) ((rd_T73 l0 x14_1).f2) l0 (l0.length : Int) x14_1 (((rd_T73 l0 x14_1).f1) != 1) x185000_1 x185001_1 x185002_1 x185003_1 x185004_1) else (if ((rd_T73 l0 x14_1).f0) = 4 then (mootref4_Follow.j2 kj8 ((rd_T73 l0 x14_1).f0) ((rd_T73 l0 x14_1).f2) l0 (l0.length : Int) x14_1 (((rd_T73 l0 x14_1).f1) != 1) x185000_1 x185001_1 x185002_1 x185003_1 x185004_1) else (if ((rd_T73 l0 x14_1).f0) = 6 then (mootref4_Follow.j2 kj8 ((rd_T73 l0 x14_1).f0) ((rd_T73 l0 x14_1).f2) l0 (l0.length : Int) x14_1 (((rd_T73 l0 x14_1).f1) != 1) x185000_1 x185001_1 x185002_1 x185003_1 x185004_1) else (mootref4_Follow.j2 kj8 ((rd_T73 l0 x14_1).f0) ((rd_T73 l0 x14_1).f2) l0 (l0.length : Int) x14_1 false x185000_1 x185001_1 x185002_1 x185003_1 x185004_1)))) else (if ((rd_T73 l0 x14_1).f1) = 2 then (if ((rd_T73 l0 x14_1).f0) = 1 then (mootref4_Follow.j2 kj8 ((rd_T73 l0 x14_1).f0) ((rd_T73 l0 x14_1).f2) l0 (l0.length : Int) x14_1 (((rd_T73 l0 x14_1).f1) != 1) x185000_1 x185001_1 x185002_1 x185003_1 x185004_1) else (if ((rd_T73 l0 x14_1).f0) = 4 then (mootref4_Follow.j2 kj8 ((rd_T73 l0 x14_1).f0) ((rd_T73 l0 x14_1).f2) l0 (l0.length : Int) x14_1 (((rd_T73 l0 x14_1).f1) != 1) x185000_1 x185001_1 x185002_1 x185003_1 x185004_1) else (if ((rd_T73 l0 x14_1).f0) = 6 then (mootref4_Follow.j2 kj8 ((rd_T73 l0 x14_1).f0) ((rd_T73 l0 x14_1).f2) l0 (l0.length : Int) x14_1 (((rd_T73 l0 x14_1).f1) != 1) x185000_1 x185001_1 x185002_1 x185003_1 x185004_1) else (mootref4_Follow.j2 kj8 ((rd_T73 l0 x14_1).f0) ((rd_T73 l0 x14_1).f2) l0 (l0.length : Int) x14_1 false x185000_1 x185001_1 x185002_1 x185003_1 x185004_1)))) else (mootref4_Follow.j2 kj8 ((rd_T73 l0 x14_1).f0) ((rd_T73 l0 x14_1).f2) l0 (l0.length : Int) x14_1 true x185000_1 x185001_1 x185002_1 x185003_1 x185004_1))) else (if ((rd_T73 l0 x14_1).f0) = 1 then (mootref4_Follow.j2 kj8 ((rd_T73 l0 x14_1).f0) ((rd_T73 l0 x14_1).f2) l0 (l0.length : Int) x14_1 (((rd_T73 l0 x14_1).f1) != 1) x185000_1 x185001_1 x185002_1 x185003_1 x185004_1) else (if ((rd_T73 l0 x14_1).f0) = 4 then (mootref4_Follow.j2 kj8 ((rd_T73 l0 x14_1).f0) ((rd_T73 l0 x14_1).f2) l0 (l0.length : Int) x14_1 (((rd_T73 l0 x14_1).f1) != 1) x185000_1 x185001_1 x185002_1 x185003_1 x185004_1) else (if ((rd_T73 l0 x14_1).f0) = 6 then (mootref4_Follow.j2 kj8 ((rd_T73 l0 x14_1).f0) ((rd_T73 l0 x14_1).f2) l0 (l0.length : Int) x14_1 (((rd_T73 l0 x14_1).f1) != 1) x185000_1 x185001_1 x185002_1 x185003_1 x185004_1) else (mootref4_Follow.j2 kj8 ((rd_T73 l0 x14_1).f0) ((rd_T73 l0 x14_1).f2) l0 (l0.length : Int) x14_1 false x185000_1 x185001_1 x185002_1 x185003_1 x185004_1))))))) = some (r1, r2, r3, r4, r5, r6) := by rw [if_neg (show ¬ (false = true) by decide)] at H; exact H
       clear H
       have H := H1
       clear H1
       have HC21 := Aside0.mk H
       clear H
       go_upto_region 8 with (fail)
       repeat (go_quiet (fail); go_upto_region 8 with (fail))
       go_cut [80] (fun v80 wc => ∃ (kq : Nat) (x80_20 : Bool), v80 = .bool x80_20 ∧ Aside0 (mootref4_Follow.j2 kq ((rd_T73 l0 x14_1).f0) ((rd_T73 l0 x14_1).f2) l0 (l0.length : Int) x14_1 x80_20 x185000_1 x185001_1 x185002_1 x185003_1 x185004_1 = some (r1, r2, r3, r4, r5, r6)) ∧ Aside0 (kq ≤ kj8) ∧ Aside0 (wc.heap[gb183]? = some (.cells #[.int .i64 x184000_1, .int .i64 x184001_1, .int .i64 x184002_1, .int .i64 x184003_1, .int .i64 x184004_1] 74 (0, 0))) ∧ Aside0 (wc.heap[gb184]? = some (.cells #[.int .i64 x185000_1, .int .i64 x185001_1, .int .i64 x185002_1, .int .i64 x185003_1, .int .i64 x185004_1] 74 (0, 0))) ∧ Aside0 (wc.heap[gb186]? = some (.cells #[.int .i64 ((rd_T73 l0 x14_1).f0), .int .i64 ((rd_T73 l0 x14_1).f1), .int .i64 ((rd_T73 l0 x14_1).f2)] 73 (0, 0))) ∧ Aside0 (Below w.heap.size w wc))
       case first => as_aux_lemma =>
        have H := HC21.out
        clear HC21
        by_cases c22 : ((rd_T73 l0 x14_1).f0) = 2
        ·
         rw [if_pos c22] at H
         have c22b0 : (((rd_T73 l0 x14_1).f0) == 2) = true := beq_iff_eq.mpr c22
         have c22b1 : (((rd_T73 l0 x14_1).f0) != 2) = false := bne_eq_false_iff_eq.mpr c22
         clear c22
         (first | rw [c22b0] | (simp only [i64_w, i32_w]; rw [c22b0]) | skip)
         by_cases c23 : ((rd_T73 l0 x14_1).f1) = 2
         ·
          rw [if_pos c23] at H
          have c23b0 : (((rd_T73 l0 x14_1).f1) == 2) = true := beq_iff_eq.mpr c23
          have c23b1 : (((rd_T73 l0 x14_1).f1) != 2) = false := bne_eq_false_iff_eq.mpr c23
          clear c23
          by_cases c24 : ((rd_T73 l0 x14_1).f0) = 3
          ·
           exact absurd (c24.symm.trans (beq_iff_eq.mp c22b0)) (by decide)
          ·
           rw [if_neg c24] at H
           have c24b0 : (((rd_T73 l0 x14_1).f0) == 3) = false := beq_eq_false_iff_ne.mpr c24
           have c24b1 : (((rd_T73 l0 x14_1).f0) != 3) = true := bne_iff_ne.mpr c24
           by_cases c36 : ((rd_T73 l0 x14_1).f0) = 5
           ·
            exact absurd (c36.symm.trans (beq_iff_eq.mp c22b0)) (by decide)
           ·
            rw [if_neg c36] at H
            have c36b0 : (((rd_T73 l0 x14_1).f0) == 5) = false := beq_eq_false_iff_ne.mpr c36
            have c36b1 : (((rd_T73 l0 x14_1).f0) != 5) = true := bne_iff_ne.mpr c36
            by_cases c44 : ((rd_T73 l0 x14_1).f0) = 1
            ·
             exact absurd (c44.symm.trans (beq_iff_eq.mp c22b0)) (by decide)
            ·
             rw [if_neg c44] at H
             have c44b0 : (((rd_T73 l0 x14_1).f0) == 1) = false := beq_eq_false_iff_ne.mpr c44
             have c44b1 : (((rd_T73 l0 x14_1).f0) != 1) = true := bne_iff_ne.mpr c44
             by_cases c45 : ((rd_T73 l0 x14_1).f0) = 4
             ·
              exact absurd (c45.symm.trans (beq_iff_eq.mp c22b0)) (by decide)
             ·
              rw [if_neg c45] at H
              have c45b0 : (((rd_T73 l0 x14_1).f0) == 4) = false := beq_eq_false_iff_ne.mpr c45
              have c45b1 : (((rd_T73 l0 x14_1).f0) != 4) = true := bne_iff_ne.mpr c45
              by_cases c46 : ((rd_T73 l0 x14_1).f0) = 6
              ·
               exact absurd (c46.symm.trans (beq_iff_eq.mp c22b0)) (by decide)
              ·
               rw [if_neg c46] at H
               have c46b0 : (((rd_T73 l0 x14_1).f0) == 6) = false := beq_eq_false_iff_ne.mpr c46
               have c46b1 : (((rd_T73 l0 x14_1).f0) != 6) = true := bne_iff_ne.mpr c46
               have H' := Aside0.mk H
               clear H
               go_wp2
               repeat (go_quiet (fail); try go_wp2)
               go_meet
               case rel => exact ⟨_, (false), (by first | rfl | (simp; done) | (simp [*]; done)), H', ⟨by have := HK1.out; have := HJ8.out; first | omega | exact Nat.le_refl _⟩, ⟨by (with_reducible repeat (first | refine blk_drewN ?_ _ | refine blk_drew ?_ | refine blk_alloc ?_ _)); exact BK183.out⟩, ⟨by (with_reducible repeat (first | refine blk_drewN ?_ _ | refine blk_drew ?_ | refine blk_alloc ?_ _)); exact BK184.out⟩, ⟨by (with_reducible repeat (first | refine blk_drewN ?_ _ | refine blk_drew ?_ | refine blk_alloc ?_ _)); exact BK186.out⟩, ⟨by repeat (first | (with_reducible first | exact HB.out | apply below_alloc | apply pw_below_drewN | apply below_drew1 | refine below_set ?_ GE183.out | refine below_set ?_ GE184.out | refine below_set ?_ GE186.out) | exact HB.out)⟩⟩
         ·
          rw [if_neg c23] at H
          have c23b0 : (((rd_T73 l0 x14_1).f1) == 2) = false := beq_eq_false_iff_ne.mpr c23
          have c23b1 : (((rd_T73 l0 x14_1).f1) != 2) = true := bne_iff_ne.mpr c23
          have H' := Aside0.mk H
          clear H
          go_wp2
          repeat (go_quiet (fail); try go_wp2)
          go_meet
          case rel => exact ⟨_, (true), (by first | rfl | (simp; done) | (simp [*]; done)), H', ⟨by have := HK1.out; have := HJ8.out; first | omega | exact Nat.le_refl _⟩, ⟨by (with_reducible repeat (first | refine blk_drewN ?_ _ | refine blk_drew ?_ | refine blk_alloc ?_ _)); exact BK183.out⟩, ⟨by (with_reducible repeat (first | refine blk_drewN ?_ _ | refine blk_drew ?_ | refine blk_alloc ?_ _)); exact BK184.out⟩, ⟨by (with_reducible repeat (first | refine blk_drewN ?_ _ | refine blk_drew ?_ | refine blk_alloc ?_ _)); exact BK186.out⟩, ⟨by repeat (first | (with_reducible first | exact HB.out | apply below_alloc | apply pw_below_drewN | apply below_drew1 | refine below_set ?_ GE183.out | refine below_set ?_ GE184.out | refine below_set ?_ GE186.out) | exact HB.out)⟩⟩
        ·
         rw [if_neg c22] at H
         have c22b0 : (((rd_T73 l0 x14_1).f0) == 2) = false := beq_eq_false_iff_ne.mpr c22
         have c22b1 : (((rd_T73 l0 x14_1).f0) != 2) = true := bne_iff_ne.mpr c22
         (first | rw [c22b0] | (simp only [i64_w, i32_w]; rw [c22b0]) | skip)
         by_cases c47 : ((rd_T73 l0 x14_1).f0) = 3
         ·
          rw [if_pos c47] at H
          have c47b0 : (((rd_T73 l0 x14_1).f0) == 3) = true := beq_iff_eq.mpr c47
          have c47b1 : (((rd_T73 l0 x14_1).f0) != 3) = false := bne_eq_false_iff_eq.mpr c47
          clear c47
          by_cases c48 : ((rd_T73 l0 x14_1).f1) = 2
          ·
           rw [if_pos c48] at H
           have c48b0 : (((rd_T73 l0 x14_1).f1) == 2) = true := beq_iff_eq.mpr c48
           have c48b1 : (((rd_T73 l0 x14_1).f1) != 2) = false := bne_eq_false_iff_eq.mpr c48
           clear c48
           by_cases c49 : ((rd_T73 l0 x14_1).f0) = 5
           ·
            exact absurd (c49.symm.trans (beq_iff_eq.mp c47b0)) (by decide)
           ·
            rw [if_neg c49] at H
            have c49b0 : (((rd_T73 l0 x14_1).f0) == 5) = false := beq_eq_false_iff_ne.mpr c49
            have c49b1 : (((rd_T73 l0 x14_1).f0) != 5) = true := bne_iff_ne.mpr c49
            by_cases c57 : ((rd_T73 l0 x14_1).f0) = 1
            ·
             exact absurd (c57.symm.trans (beq_iff_eq.mp c47b0)) (by decide)
            ·
             rw [if_neg c57] at H
             have c57b0 : (((rd_T73 l0 x14_1).f0) == 1) = false := beq_eq_false_iff_ne.mpr c57
             have c57b1 : (((rd_T73 l0 x14_1).f0) != 1) = true := bne_iff_ne.mpr c57
             by_cases c58 : ((rd_T73 l0 x14_1).f0) = 4
             ·
              exact absurd (c58.symm.trans (beq_iff_eq.mp c47b0)) (by decide)
             ·
              rw [if_neg c58] at H
              have c58b0 : (((rd_T73 l0 x14_1).f0) == 4) = false := beq_eq_false_iff_ne.mpr c58
              have c58b1 : (((rd_T73 l0 x14_1).f0) != 4) = true := bne_iff_ne.mpr c58
              by_cases c59 : ((rd_T73 l0 x14_1).f0) = 6
              ·
               exact absurd (c59.symm.trans (beq_iff_eq.mp c47b0)) (by decide)
              ·
               rw [if_neg c59] at H
               have c59b0 : (((rd_T73 l0 x14_1).f0) == 6) = false := beq_eq_false_iff_ne.mpr c59
               have c59b1 : (((rd_T73 l0 x14_1).f0) != 6) = true := bne_iff_ne.mpr c59
               have H' := Aside0.mk H
               clear H
               go_wp2
               repeat (go_quiet (fail); try go_wp2)
               go_meet
               case rel => exact ⟨_, (false), (by first | rfl | (simp; done) | (simp [*]; done)), H', ⟨by have := HK1.out; have := HJ8.out; first | omega | exact Nat.le_refl _⟩, ⟨by (with_reducible repeat (first | refine blk_drewN ?_ _ | refine blk_drew ?_ | refine blk_alloc ?_ _)); exact BK183.out⟩, ⟨by (with_reducible repeat (first | refine blk_drewN ?_ _ | refine blk_drew ?_ | refine blk_alloc ?_ _)); exact BK184.out⟩, ⟨by (with_reducible repeat (first | refine blk_drewN ?_ _ | refine blk_drew ?_ | refine blk_alloc ?_ _)); exact BK186.out⟩, ⟨by repeat (first | (with_reducible first | exact HB.out | apply below_alloc | apply pw_below_drewN | apply below_drew1 | refine below_set ?_ GE183.out | refine below_set ?_ GE184.out | refine below_set ?_ GE186.out) | exact HB.out)⟩⟩
          ·
           rw [if_neg c48] at H
           have c48b0 : (((rd_T73 l0 x14_1).f1) == 2) = false := beq_eq_false_iff_ne.mpr c48
           have c48b1 : (((rd_T73 l0 x14_1).f1) != 2) = true := bne_iff_ne.mpr c48
           have H' := Aside0.mk H
           clear H
           go_wp2
           repeat (go_quiet (fail); try go_wp2)
           go_meet
           case rel => exact ⟨_, (true), (by first | rfl | (simp; done) | (simp [*]; done)), H', ⟨by have := HK1.out; have := HJ8.out; first | omega | exact Nat.le_refl _⟩, ⟨by (with_reducible repeat (first | refine blk_drewN ?_ _ | refine blk_drew ?_ | refine blk_alloc ?_ _)); exact BK183.out⟩, ⟨by (with_reducible repeat (first | refine blk_drewN ?_ _ | refine blk_drew ?_ | refine blk_alloc ?_ _)); exact BK184.out⟩, ⟨by (with_reducible repeat (first | refine blk_drewN ?_ _ | refine blk_drew ?_ | refine blk_alloc ?_ _)); exact BK186.out⟩, ⟨by repeat (first | (with_reducible first | exact HB.out | apply below_alloc | apply pw_below_drewN | apply below_drew1 | refine below_set ?_ GE183.out | refine below_set ?_ GE184.out | refine below_set ?_ GE186.out) | exact HB.out)⟩⟩
         ·
          rw [if_neg c47] at H
          have c47b0 : (((rd_T73 l0 x14_1).f0) == 3) = false := beq_eq_false_iff_ne.mpr c47
          have c47b1 : (((rd_T73 l0 x14_1).f0) != 3) = true := bne_iff_ne.mpr c47
          by_cases c60 : ((rd_T73 l0 x14_1).f0) = 5
          ·
           rw [if_pos c60] at H
           have c60b0 : (((rd_T73 l0 x14_1).f0) == 5) = true := beq_iff_eq.mpr c60
           have c60b1 : (((rd_T73 l0 x14_1).f0) != 5) = false := bne_eq_false_iff_eq.mpr c60
           clear c60
           by_cases c61 : ((rd_T73 l0 x14_1).f1) = 1
           ·
            rw [if_pos c61] at H
            have c61b0 : (((rd_T73 l0 x14_1).f1) == 1) = true := beq_iff_eq.mpr c61
            have c61b1 : (((rd_T73 l0 x14_1).f1) != 1) = false := bne_eq_false_iff_eq.mpr c61
            clear c61
            by_cases c62 : ((rd_T73 l0 x14_1).f0) = 1
            ·
             exact absurd (c62.symm.trans (beq_iff_eq.mp c60b0)) (by decide)
            ·
             rw [if_neg c62] at H
             have c62b0 : (((rd_T73 l0 x14_1).f0) == 1) = false := beq_eq_false_iff_ne.mpr c62
             have c62b1 : (((rd_T73 l0 x14_1).f0) != 1) = true := bne_iff_ne.mpr c62
             by_cases c63 : ((rd_T73 l0 x14_1).f0) = 4
             ·
              exact absurd (c63.symm.trans (beq_iff_eq.mp c60b0)) (by decide)
             ·
              rw [if_neg c63] at H
              have c63b0 : (((rd_T73 l0 x14_1).f0) == 4) = false := beq_eq_false_iff_ne.mpr c63
              have c63b1 : (((rd_T73 l0 x14_1).f0) != 4) = true := bne_iff_ne.mpr c63
              by_cases c64 : ((rd_T73 l0 x14_1).f0) = 6
              ·
               exact absurd (c64.symm.trans (beq_iff_eq.mp c60b0)) (by decide)
              ·
               rw [if_neg c64] at H
               have c64b0 : (((rd_T73 l0 x14_1).f0) == 6) = false := beq_eq_false_iff_ne.mpr c64
               have c64b1 : (((rd_T73 l0 x14_1).f0) != 6) = true := bne_iff_ne.mpr c64
               have H' := Aside0.mk H
               clear H
               go_wp2
               repeat (go_quiet (fail); try go_wp2)
               go_meet
               case rel => exact ⟨_, (false), (by first | rfl | (simp; done) | (simp [*]; done)), H', ⟨by have := HK1.out; have := HJ8.out; first | omega | exact Nat.le_refl _⟩, ⟨by (with_reducible repeat (first | refine blk_drewN ?_ _ | refine blk_drew ?_ | refine blk_alloc ?_ _)); exact BK183.out⟩, ⟨by (with_reducible repeat (first | refine blk_drewN ?_ _ | refine blk_drew ?_ | refine blk_alloc ?_ _)); exact BK184.out⟩, ⟨by (with_reducible repeat (first | refine blk_drewN ?_ _ | refine blk_drew ?_ | refine blk_alloc ?_ _)); exact BK186.out⟩, ⟨by repeat (first | (with_reducible first | exact HB.out | apply below_alloc | apply pw_below_drewN | apply below_drew1 | refine below_set ?_ GE183.out | refine below_set ?_ GE184.out | refine below_set ?_ GE186.out) | exact HB.out)⟩⟩
           ·
            rw [if_neg c61] at H
            have c61b0 : (((rd_T73 l0 x14_1).f1) == 1) = false := beq_eq_false_iff_ne.mpr c61
            have c61b1 : (((rd_T73 l0 x14_1).f1) != 1) = true := bne_iff_ne.mpr c61
            by_cases c65 : ((rd_T73 l0 x14_1).f1) = 2
            ·
             rw [if_pos c65] at H
             have c65b0 : (((rd_T73 l0 x14_1).f1) == 2) = true := beq_iff_eq.mpr c65
             have c65b1 : (((rd_T73 l0 x14_1).f1) != 2) = false := bne_eq_false_iff_eq.mpr c65
             clear c65
             by_cases c66 : ((rd_T73 l0 x14_1).f0) = 1
             ·
              exact absurd (c66.symm.trans (beq_iff_eq.mp c60b0)) (by decide)
             ·
              rw [if_neg c66] at H
              have c66b0 : (((rd_T73 l0 x14_1).f0) == 1) = false := beq_eq_false_iff_ne.mpr c66
              have c66b1 : (((rd_T73 l0 x14_1).f0) != 1) = true := bne_iff_ne.mpr c66
              by_cases c67 : ((rd_T73 l0 x14_1).f0) = 4
              ·
               exact absurd (c67.symm.trans (beq_iff_eq.mp c60b0)) (by decide)
              ·
               rw [if_neg c67] at H
               have c67b0 : (((rd_T73 l0 x14_1).f0) == 4) = false := beq_eq_false_iff_ne.mpr c67
               have c67b1 : (((rd_T73 l0 x14_1).f0) != 4) = true := bne_iff_ne.mpr c67
               by_cases c68 : ((rd_T73 l0 x14_1).f0) = 6
               ·
                exact absurd (c68.symm.trans (beq_iff_eq.mp c60b0)) (by decide)
               ·
                rw [if_neg c68] at H
                have c68b0 : (((rd_T73 l0 x14_1).f0) == 6) = false := beq_eq_false_iff_ne.mpr c68
                have c68b1 : (((rd_T73 l0 x14_1).f0) != 6) = true := bne_iff_ne.mpr c68
                have H' := Aside0.mk H
                clear H
                go_wp2
                repeat (go_quiet (fail); try go_wp2)
                go_meet
                case rel => exact ⟨_, (false), (by first | rfl | (simp; done) | (simp [*]; done)), H', ⟨by have := HK1.out; have := HJ8.out; first | omega | exact Nat.le_refl _⟩, ⟨by (with_reducible repeat (first | refine blk_drewN ?_ _ | refine blk_drew ?_ | refine blk_alloc ?_ _)); exact BK183.out⟩, ⟨by (with_reducible repeat (first | refine blk_drewN ?_ _ | refine blk_drew ?_ | refine blk_alloc ?_ _)); exact BK184.out⟩, ⟨by (with_reducible repeat (first | refine blk_drewN ?_ _ | refine blk_drew ?_ | refine blk_alloc ?_ _)); exact BK186.out⟩, ⟨by repeat (first | (with_reducible first | exact HB.out | apply below_alloc | apply pw_below_drewN | apply below_drew1 | refine below_set ?_ GE183.out | refine below_set ?_ GE184.out | refine below_set ?_ GE186.out) | exact HB.out)⟩⟩
            ·
             rw [if_neg c65] at H
             have c65b0 : (((rd_T73 l0 x14_1).f1) == 2) = false := beq_eq_false_iff_ne.mpr c65
             have c65b1 : (((rd_T73 l0 x14_1).f1) != 2) = true := bne_iff_ne.mpr c65
             have H' := Aside0.mk H
             clear H
             go_wp2
             repeat (go_quiet (fail); try go_wp2)
             go_meet
             case rel => exact ⟨_, (true), (by first | rfl | (simp; done) | (simp [*]; done)), H', ⟨by have := HK1.out; have := HJ8.out; first | omega | exact Nat.le_refl _⟩, ⟨by (with_reducible repeat (first | refine blk_drewN ?_ _ | refine blk_drew ?_ | refine blk_alloc ?_ _)); exact BK183.out⟩, ⟨by (with_reducible repeat (first | refine blk_drewN ?_ _ | refine blk_drew ?_ | refine blk_alloc ?_ _)); exact BK184.out⟩, ⟨by (with_reducible repeat (first | refine blk_drewN ?_ _ | refine blk_drew ?_ | refine blk_alloc ?_ _)); exact BK186.out⟩, ⟨by repeat (first | (with_reducible first | exact HB.out | apply below_alloc | apply pw_below_drewN | apply below_drew1 | refine below_set ?_ GE183.out | refine below_set ?_ GE184.out | refine below_set ?_ GE186.out) | exact HB.out)⟩⟩
          ·
           rw [if_neg c60] at H
           have c60b0 : (((rd_T73 l0 x14_1).f0) == 5) = false := beq_eq_false_iff_ne.mpr c60
           have c60b1 : (((rd_T73 l0 x14_1).f0) != 5) = true := bne_iff_ne.mpr c60
           by_cases c69 : ((rd_T73 l0 x14_1).f0) = 1
           ·
            rw [if_pos c69] at H
            have c69b0 : (((rd_T73 l0 x14_1).f0) == 1) = true := beq_iff_eq.mpr c69
            have c69b1 : (((rd_T73 l0 x14_1).f0) != 1) = false := bne_eq_false_iff_eq.mpr c69
            clear c69
            have H' := Aside0.mk H
            clear H
            go_wp2
            repeat (go_quiet (fail); try go_wp2)
            go_meet
            case rel => exact ⟨_, ((((rd_T73 l0 x14_1).f1) != 1)), (by first | rfl | (simp; done) | (simp [*]; done)), H', ⟨by have := HK1.out; have := HJ8.out; first | omega | exact Nat.le_refl _⟩, ⟨by (with_reducible repeat (first | refine blk_drewN ?_ _ | refine blk_drew ?_ | refine blk_alloc ?_ _)); exact BK183.out⟩, ⟨by (with_reducible repeat (first | refine blk_drewN ?_ _ | refine blk_drew ?_ | refine blk_alloc ?_ _)); exact BK184.out⟩, ⟨by (with_reducible repeat (first | refine blk_drewN ?_ _ | refine blk_drew ?_ | refine blk_alloc ?_ _)); exact BK186.out⟩, ⟨by repeat (first | (with_reducible first | exact HB.out | apply below_alloc | apply pw_below_drewN | apply below_drew1 | refine below_set ?_ GE183.out | refine below_set ?_ GE184.out | refine below_set ?_ GE186.out) | exact HB.out)⟩⟩
           ·
            rw [if_neg c69] at H
            have c69b0 : (((rd_T73 l0 x14_1).f0) == 1) = false := beq_eq_false_iff_ne.mpr c69
            have c69b1 : (((rd_T73 l0 x14_1).f0) != 1) = true := bne_iff_ne.mpr c69
            by_cases c70 : ((rd_T73 l0 x14_1).f0) = 4
            ·
             rw [if_pos c70] at H
             have c70b0 : (((rd_T73 l0 x14_1).f0) == 4) = true := beq_iff_eq.mpr c70
             have c70b1 : (((rd_T73 l0 x14_1).f0) != 4) = false := bne_eq_false_iff_eq.mpr c70
             clear c70
             have H' := Aside0.mk H
             clear H
             go_wp2
             repeat (go_quiet (fail); try go_wp2)
             go_meet
             case rel => exact ⟨_, ((((rd_T73 l0 x14_1).f1) != 1)), (by first | rfl | (simp; done) | (simp [*]; done)), H', ⟨by have := HK1.out; have := HJ8.out; first | omega | exact Nat.le_refl _⟩, ⟨by (with_reducible repeat (first | refine blk_drewN ?_ _ | refine blk_drew ?_ | refine blk_alloc ?_ _)); exact BK183.out⟩, ⟨by (with_reducible repeat (first | refine blk_drewN ?_ _ | refine blk_drew ?_ | refine blk_alloc ?_ _)); exact BK184.out⟩, ⟨by (with_reducible repeat (first | refine blk_drewN ?_ _ | refine blk_drew ?_ | refine blk_alloc ?_ _)); exact BK186.out⟩, ⟨by repeat (first | (with_reducible first | exact HB.out | apply below_alloc | apply pw_below_drewN | apply below_drew1 | refine below_set ?_ GE183.out | refine below_set ?_ GE184.out | refine below_set ?_ GE186.out) | exact HB.out)⟩⟩
            ·
             rw [if_neg c70] at H
             have c70b0 : (((rd_T73 l0 x14_1).f0) == 4) = false := beq_eq_false_iff_ne.mpr c70
             have c70b1 : (((rd_T73 l0 x14_1).f0) != 4) = true := bne_iff_ne.mpr c70
             by_cases c71 : ((rd_T73 l0 x14_1).f0) = 6
             ·
              rw [if_pos c71] at H
              have c71b0 : (((rd_T73 l0 x14_1).f0) == 6) = true := beq_iff_eq.mpr c71
              have c71b1 : (((rd_T73 l0 x14_1).f0) != 6) = false := bne_eq_false_iff_eq.mpr c71
              clear c71
              have H' := Aside0.mk H
              clear H
              go_wp2
              repeat (go_quiet (fail); try go_wp2)
              go_meet
              case rel => exact ⟨_, ((((rd_T73 l0 x14_1).f1) != 1)), (by first | rfl | (simp; done) | (simp [*]; done)), H', ⟨by have := HK1.out; have := HJ8.out; first | omega | exact Nat.le_refl _⟩, ⟨by (with_reducible repeat (first | refine blk_drewN ?_ _ | refine blk_drew ?_ | refine blk_alloc ?_ _)); exact BK183.out⟩, ⟨by (with_reducible repeat (first | refine blk_drewN ?_ _ | refine blk_drew ?_ | refine blk_alloc ?_ _)); exact BK184.out⟩, ⟨by (with_reducible repeat (first | refine blk_drewN ?_ _ | refine blk_drew ?_ | refine blk_alloc ?_ _)); exact BK186.out⟩, ⟨by repeat (first | (with_reducible first | exact HB.out | apply below_alloc | apply pw_below_drewN | apply below_drew1 | refine below_set ?_ GE183.out | refine below_set ?_ GE184.out | refine below_set ?_ GE186.out) | exact HB.out)⟩⟩
             ·
              rw [if_neg c71] at H
              have c71b0 : (((rd_T73 l0 x14_1).f0) == 6) = false := beq_eq_false_iff_ne.mpr c71
              have c71b1 : (((rd_T73 l0 x14_1).f0) != 6) = true := bne_iff_ne.mpr c71
              have H' := Aside0.mk H
              clear H
              go_wp2
              repeat (go_quiet (fail); try go_wp2)
              go_meet
              case rel => exact ⟨_, (false), (by first | rfl | (simp; done) | (simp [*]; done)), H', ⟨by have := HK1.out; have := HJ8.out; first | omega | exact Nat.le_refl _⟩, ⟨by (with_reducible repeat (first | refine blk_drewN ?_ _ | refine blk_drew ?_ | refine blk_alloc ?_ _)); exact BK183.out⟩, ⟨by (with_reducible repeat (first | refine blk_drewN ?_ _ | refine blk_drew ?_ | refine blk_alloc ?_ _)); exact BK184.out⟩, ⟨by (with_reducible repeat (first | refine blk_drewN ?_ _ | refine blk_drew ?_ | refine blk_alloc ?_ _)); exact BK186.out⟩, ⟨by repeat (first | (with_reducible first | exact HB.out | apply below_alloc | apply pw_below_drewN | apply below_drew1 | refine below_set ?_ GE183.out | refine below_set ?_ GE184.out | refine below_set ?_ GE186.out) | exact HB.out)⟩⟩
       case rest =>
        clear HC21
        try clear c2
        try clear p2
        try clear c3
        try clear c4
        try clear c5
        try clear c6
        try clear c7
        try clear c22
        try clear c22b0 c22b1
        try clear c23
        try clear c23b0 c23b1
        try clear c24
        try clear c24b0 c24b1
        try clear c25
        try clear c25b0 c25b1
        try clear c32
        try clear c32b0 c32b1
        try clear c33
        try clear c33b0 c33b1
        try clear c34
        try clear c34b0 c34b1
        try clear c35
        try clear c35b0 c35b1
        try clear c36
        try clear c36b0 c36b1
        try clear c37
        try clear c37b0 c37b1
        try clear c38
        try clear c38b0 c38b1
        try clear c39
        try clear c39b0 c39b1
        try clear c40
        try clear c40b0 c40b1
        try clear c41
        try clear c41b0 c41b1
        try clear c42
        try clear c42b0 c42b1
        try clear c43
        try clear c43b0 c43b1
        try clear c44
        try clear c44b0 c44b1
        try clear c45
        try clear c45b0 c45b1
        try clear c46
        try clear c46b0 c46b1
        try clear c47
        try clear c47b0 c47b1
        try clear c48
        try clear c48b0 c48b1
        try clear c49
        try clear c49b0 c49b1
        try clear c50
        try clear c50b0 c50b1
        try clear c51
        try clear c51b0 c51b1
        try clear c52
        try clear c52b0 c52b1
        try clear c53
        try clear c53b0 c53b1
        try clear c54
        try clear c54b0 c54b1
        try clear c55
        try clear c55b0 c55b1
        try clear c56
        try clear c56b0 c56b1
        try clear c57
        try clear c57b0 c57b1
        try clear c58
        try clear c58b0 c58b1
        try clear c59
        try clear c59b0 c59b1
        try clear c60
        try clear c60b0 c60b1
        try clear c61
        try clear c61b0 c61b1
        try clear c62
        try clear c62b0 c62b1
        try clear c63
        try clear c63b0 c63b1
        try clear c64
        try clear c64b0 c64b1
        try clear c65
        try clear c65b0 c65b1
        try clear c66
        try clear c66b0 c66b1
        try clear c67
        try clear c67b0 c67b1
        try clear c68
        try clear c68b0 c68b1
        try clear c69
        try clear c69b0 c69b1
        try clear c70
        try clear c70b0 c70b1
        try clear c71
        try clear c71b0 c71b1
        obtain ⟨kq, x80_20, rfl, HA, HJ20, BK183, BK184, BK186, HB⟩ := hcut
        cases kq with
        | zero => exact absurd HA.out (by simp [mootref4_Follow.j2])
        | succ kj20 =>
         have H := HA.out
         clear HA
         simp only [mootref4_Follow.j2] at H
         by_cases c72 : x80_20 = true
         ·
          subst c72
          have H1 : (some (0, 0, 0, 0, 0, 19)) = some (r1, r2, r3, r4, r5, r6) := by rw [if_pos rfl] at H; exact H
          clear H
          have H := H1
          clear H1
          simp only [Option.some.injEq, Prod.mk.injEq] at H
          obtain ⟨rfl, rfl, rfl, rfl, rfl, rfl⟩ := H
          have hnb73 := NB183_184.out
          have hnc73 := NB184_183.out
          have hnb74 := NB183_186.out
          have hnc74 := NB186_183.out
          have hcz75_0 : wc.cell? ⟨gb183, 0, none⟩ = some (.int .i64 x184000_1) := (blk_cell BK183.out 0).trans rfl
          have hcz75_1 : wc.cell? ⟨gb183, 1, none⟩ = some (.int .i64 x184001_1) := (blk_cell BK183.out 1).trans rfl
          have hcz75_2 : wc.cell? ⟨gb183, 2, none⟩ = some (.int .i64 x184002_1) := (blk_cell BK183.out 2).trans rfl
          have hcz75_3 : wc.cell? ⟨gb183, 3, none⟩ = some (.int .i64 x184003_1) := (blk_cell BK183.out 3).trans rfl
          have hcz75_4 : wc.cell? ⟨gb183, 4, none⟩ = some (.int .i64 x184004_1) := (blk_cell BK183.out 4).trans rfl
          have hfz75_0 := blk_frozen BK183.out 0
          have hfz75_1 := blk_frozen BK183.out 1
          have hfz75_2 := blk_frozen BK183.out 2
          have hfz75_3 := blk_frozen BK183.out 3
          have hfz75_4 := blk_frozen BK183.out 4
          go_wp2
          repeat (go_quiet (fail); try go_wp2)
          refine bodyPost_ret (results_ct rfl _ _ gb183 74 #[.int .i64 0, .int .i64 0, .int .i64 0, .int .i64 0, .int .i64 0] (0, 0) _ rfl (by (with_reducible repeat (first | refine blk_drewN ?_ _ | refine blk_drew ?_ | refine blk_alloc ?_ _)); refine blk_put (cs := #[.int .i64 0, .int .i64 0, .int .i64 0, .int .i64 0, .int .i64 x184004_1]) ?_ 4 _ rfl; (with_reducible repeat (first | refine blk_drewN ?_ _ | refine blk_drew ?_ | refine blk_alloc ?_ _)); refine blk_put (cs := #[.int .i64 0, .int .i64 0, .int .i64 0, .int .i64 x184003_1, .int .i64 x184004_1]) ?_ 3 _ rfl; (with_reducible repeat (first | refine blk_drewN ?_ _ | refine blk_drew ?_ | refine blk_alloc ?_ _)); refine blk_put (cs := #[.int .i64 0, .int .i64 0, .int .i64 x184002_1, .int .i64 x184003_1, .int .i64 x184004_1]) ?_ 2 _ rfl; (with_reducible repeat (first | refine blk_drewN ?_ _ | refine blk_drew ?_ | refine blk_alloc ?_ _)); refine blk_put (cs := #[.int .i64 0, .int .i64 x184001_1, .int .i64 x184002_1, .int .i64 x184003_1, .int .i64 x184004_1]) ?_ 1 _ rfl; (with_reducible repeat (first | refine blk_drewN ?_ _ | refine blk_drew ?_ | refine blk_alloc ?_ _)); refine blk_put (cs := #[.int .i64 x184000_1, .int .i64 x184001_1, .int .i64 x184002_1, .int .i64 x184003_1, .int .i64 x184004_1]) ?_ 0 _ rfl; (with_reducible repeat (first | refine blk_drewN ?_ _ | refine blk_drew ?_ | refine blk_alloc ?_ _)); exact BK183.out) Try.underlying74 rfl (by kernel_rfl)) rfl ?_
          exact ⟨by first | rfl | (simp [errW_none, errW_some] <;> rfl) | (simp [*, errW_none, errW_some] <;> rfl), by repeat (first | (with_reducible first | exact HB.out | apply below_alloc | apply pw_below_drewN | apply below_drew1 | refine below_set ?_ GE183.out | refine below_set ?_ GE184.out | refine below_set ?_ GE186.out) | exact HB.out)⟩
         ·
          replace c72 := Bool.eq_false_iff.mpr c72
          subst c72
          have H1 : (if x185000_1 = 0 then (mootref4_Follow.j3 kj20 ((rd_T73 l0 x14_1).f0) ((rd_T73 l0 x14_1).f2) l0 (l0.length : Int) x14_1 false x185000_1 x185001_1 x185002_1 x185003_1 x185004_1) else (mootref4_Follow.j3 kj20 ((rd_T73 l0 x14_1).f0) ((rd_T73 l0 x14_1).f2) l0 (l0.length : Int) x14_1 (decide (((rd_T73 l0 x14_1).f2) < x185001_1)) x185000_1 x185001_1 x185002_1 x185003_1 x185004_1)) = some (r1, r2, r3, r4, r5, r6) := by rw [if_neg (show ¬ (false = true) by decide)] at H; exact H
          clear H
          have H := H1
          clear H1
          have HC76 := Aside0.mk H
          clear H
          go_upto_region 10 with (fail)
          repeat (go_quiet (fail); go_upto_region 10 with (fail))
          go_cut [90] (fun v90 wc => ∃ (kq : Nat) (x90_75 : Bool), v90 = .bool x90_75 ∧ Aside0 (mootref4_Follow.j3 kq ((rd_T73 l0 x14_1).f0) ((rd_T73 l0 x14_1).f2) l0 (l0.length : Int) x14_1 x90_75 x185000_1 x185001_1 x185002_1 x185003_1 x185004_1 = some (r1, r2, r3, r4, r5, r6)) ∧ Aside0 (kq ≤ kj20) ∧ Aside0 (wc.heap[gb183]? = some (.cells #[.int .i64 x184000_1, .int .i64 x184001_1, .int .i64 x184002_1, .int .i64 x184003_1, .int .i64 x184004_1] 74 (0, 0))) ∧ Aside0 (wc.heap[gb184]? = some (.cells #[.int .i64 x185000_1, .int .i64 x185001_1, .int .i64 x185002_1, .int .i64 x185003_1, .int .i64 x185004_1] 74 (0, 0))) ∧ Aside0 (wc.heap[gb186]? = some (.cells #[.int .i64 ((rd_T73 l0 x14_1).f0), .int .i64 ((rd_T73 l0 x14_1).f1), .int .i64 ((rd_T73 l0 x14_1).f2)] 73 (0, 0))) ∧ Aside0 (Below w.heap.size w wc))
          case first =>
           have H := HC76.out
           clear HC76
           by_cases c77 : x185000_1 = 0
           ·
            rw [if_pos c77] at H
            have c77b0 : (x185000_1 == 0) = true := beq_iff_eq.mpr c77
            have c77b1 : (x185000_1 != 0) = false := bne_eq_false_iff_eq.mpr c77
            clear c77
            (first | rw [c77b0] | (simp only [i64_w, i32_w]; rw [c77b0]) | skip)
            have H' := Aside0.mk H
            clear H
            have hnb78 := NB184_183.out
            have hnc78 := NB183_184.out
            have hnb79 := NB184_186.out
            have hnc79 := NB186_184.out
            have hcz80_0 : wc.cell? ⟨gb184, 0, none⟩ = some (.int .i64 x185000_1) := (blk_cell BK184.out 0).trans rfl
            have hcz80_1 : wc.cell? ⟨gb184, 1, none⟩ = some (.int .i64 x185001_1) := (blk_cell BK184.out 1).trans rfl
            have hcz80_2 : wc.cell? ⟨gb184, 2, none⟩ = some (.int .i64 x185002_1) := (blk_cell BK184.out 2).trans rfl
            have hcz80_3 : wc.cell? ⟨gb184, 3, none⟩ = some (.int .i64 x185003_1) := (blk_cell BK184.out 3).trans rfl
            have hcz80_4 : wc.cell? ⟨gb184, 4, none⟩ = some (.int .i64 x185004_1) := (blk_cell BK184.out 4).trans rfl
            have hfz80_0 := blk_frozen BK184.out 0
            have hfz80_1 := blk_frozen BK184.out 1
            have hfz80_2 := blk_frozen BK184.out 2
            have hfz80_3 := blk_frozen BK184.out 3
            have hfz80_4 := blk_frozen BK184.out 4
            go_wp2
            repeat (go_quiet (fail); try go_wp2)
            go_meet
            case rel => exact ⟨_, (false), (by first | rfl | (simp; done) | (simp [*]; done)), H', ⟨by have := HK1.out; have := HJ8.out; have := HJ20.out; first | omega | exact Nat.le_refl _⟩, ⟨by (with_reducible repeat (first | refine blk_drewN ?_ _ | refine blk_drew ?_ | refine blk_alloc ?_ _)); exact BK183.out⟩, ⟨by (with_reducible repeat (first | refine blk_drewN ?_ _ | refine blk_drew ?_ | refine blk_alloc ?_ _)); exact BK184.out⟩, ⟨by (with_reducible repeat (first | refine blk_drewN ?_ _ | refine blk_drew ?_ | refine blk_alloc ?_ _)); exact BK186.out⟩, ⟨by repeat (first | (with_reducible first | exact HB.out | apply below_alloc | apply pw_below_drewN | apply below_drew1 | refine below_set ?_ GE183.out | refine below_set ?_ GE184.out | refine below_set ?_ GE186.out) | exact HB.out)⟩⟩
           ·
            rw [if_neg c77] at H
            have c77b0 : (x185000_1 == 0) = false := beq_eq_false_iff_ne.mpr c77
            have c77b1 : (x185000_1 != 0) = true := bne_iff_ne.mpr c77
            (first | rw [c77b0] | (simp only [i64_w, i32_w]; rw [c77b0]) | skip)
            have H' := Aside0.mk H
            clear H
            have hnb81 := NB184_183.out
            have hnc81 := NB183_184.out
            have hnb82 := NB184_186.out
            have hnc82 := NB186_184.out
            have hcz83_0 : wc.cell? ⟨gb184, 0, none⟩ = some (.int .i64 x185000_1) := (blk_cell BK184.out 0).trans rfl
            have hcz83_1 : wc.cell? ⟨gb184, 1, none⟩ = some (.int .i64 x185001_1) := (blk_cell BK184.out 1).trans rfl
            have hcz83_2 : wc.cell? ⟨gb184, 2, none⟩ = some (.int .i64 x185002_1) := (blk_cell BK184.out 2).trans rfl
            have hcz83_3 : wc.cell? ⟨gb184, 3, none⟩ = some (.int .i64 x185003_1) := (blk_cell BK184.out 3).trans rfl
            have hcz83_4 : wc.cell? ⟨gb184, 4, none⟩ = some (.int .i64 x185004_1) := (blk_cell BK184.out 4).trans rfl
            have hfz83_0 := blk_frozen BK184.out 0
            have hfz83_1 := blk_frozen BK184.out 1
            have hfz83_2 := blk_frozen BK184.out 2
            have hfz83_3 := blk_frozen BK184.out 3
            have hfz83_4 := blk_frozen BK184.out 4
            go_wp2
            repeat (go_quiet (fail); try go_wp2)
            go_meet
            case rel => exact ⟨_, (decide (((rd_T73 l0 x14_1).f2) < x185001_1)), (by first | rfl | (simp; done) | (simp [*]; done)), H', ⟨by have := HK1.out; have := HJ8.out; have := HJ20.out; first | omega | exact Nat.le_refl _⟩, ⟨by (with_reducible repeat (first | refine blk_drewN ?_ _ | refine blk_drew ?_ | refine blk_alloc ?_ _)); exact BK183.out⟩, ⟨by (with_reducible repeat (first | refine blk_drewN ?_ _ | refine blk_drew ?_ | refine blk_alloc ?_ _)); exact BK184.out⟩, ⟨by (with_reducible repeat (first | refine blk_drewN ?_ _ | refine blk_drew ?_ | refine blk_alloc ?_ _)); exact BK186.out⟩, ⟨by repeat (first | (with_reducible first | exact HB.out | apply below_alloc | apply pw_below_drewN | apply below_drew1 | refine below_set ?_ GE183.out | refine below_set ?_ GE184.out | refine below_set ?_ GE186.out) | exact HB.out)⟩⟩
          case rest =>
           clear HC76
           try clear c2
           try clear p2
           try clear c3
           try clear c4
           try clear c5
           try clear c6
           try clear c7
           try clear c8
           try clear c22
           try clear c22b0 c22b1
           try clear c23
           try clear c23b0 c23b1
           try clear c24
           try clear c24b0 c24b1
           try clear c25
           try clear c25b0 c25b1
           try clear c32
           try clear c32b0 c32b1
           try clear c33
           try clear c33b0 c33b1
           try clear c34
           try clear c34b0 c34b1
           try clear c35
           try clear c35b0 c35b1
           try clear c36
           try clear c36b0 c36b1
           try clear c37
           try clear c37b0 c37b1
           try clear c38
           try clear c38b0 c38b1
           try clear c39
           try clear c39b0 c39b1
           try clear c40
           try clear c40b0 c40b1
           try clear c41
           try clear c41b0 c41b1
           try clear c42
           try clear c42b0 c42b1
           try clear c43
           try clear c43b0 c43b1
           try clear c44
           try clear c44b0 c44b1
           try clear c45
           try clear c45b0 c45b1
           try clear c46
           try clear c46b0 c46b1
           try clear c47
           try clear c47b0 c47b1
           try clear c48
           try clear c48b0 c48b1
           try clear c49
           try clear c49b0 c49b1
           try clear c50
           try clear c50b0 c50b1
           try clear c51
           try clear c51b0 c51b1
           try clear c52
           try clear c52b0 c52b1
           try clear c53
           try clear c53b0 c53b1
           try clear c54
           try clear c54b0 c54b1
           try clear c55
           try clear c55b0 c55b1
           try clear c56
           try clear c56b0 c56b1
           try clear c57
           try clear c57b0 c57b1
           try clear c58
           try clear c58b0 c58b1
           try clear c59
           try clear c59b0 c59b1
           try clear c60
           try clear c60b0 c60b1
           try clear c61
           try clear c61b0 c61b1
           try clear c62
           try clear c62b0 c62b1
           try clear c63
           try clear c63b0 c63b1
           try clear c64
           try clear c64b0 c64b1
           try clear c65
           try clear c65b0 c65b1
           try clear c66
           try clear c66b0 c66b1
           try clear c67
           try clear c67b0 c67b1
           try clear c68
           try clear c68b0 c68b1
           try clear c69
           try clear c69b0 c69b1
           try clear c70
           try clear c70b0 c70b1
           try clear c71
           try clear c71b0 c71b1
           try clear c72
           try clear c73
           try clear c74
           try clear c77
           try clear c77b0 c77b1
           try clear c78
           try clear c79
           try clear c81
           try clear c82
           try clear hcz75_0 hcz75_1 hcz75_2 hcz75_3 hcz75_4
           try clear hcz80_0 hcz80_1 hcz80_2 hcz80_3 hcz80_4
           try clear hcz83_0 hcz83_1 hcz83_2 hcz83_3 hcz83_4
           try clear hfz75_0 hfz75_1 hfz75_2 hfz75_3 hfz75_4
           try clear hfz80_0 hfz80_1 hfz80_2 hfz80_3 hfz80_4
           try clear hfz83_0 hfz83_1 hfz83_2 hfz83_3 hfz83_4
           try clear p2
           obtain ⟨kq, x90_75, rfl, HA, HJ75, BK183, BK184, BK186, HB⟩ := hcut
           cases kq with
           | zero => exact absurd HA.out (by simp [mootref4_Follow.j3])
           | succ kj75 =>
            have H := HA.out
            clear HA
            simp only [mootref4_Follow.j3] at H
            by_cases c84 : x90_75 = true
            ·
             subst c84
             have H1 : (some (0, 0, 0, 0, 0, 9)) = some (r1, r2, r3, r4, r5, r6) := by rw [if_pos rfl] at H; exact H
             clear H
             have H := H1
             clear H1
             simp only [Option.some.injEq, Prod.mk.injEq] at H
             obtain ⟨rfl, rfl, rfl, rfl, rfl, rfl⟩ := H
             have hnb85 := NB183_184.out
             have hnc85 := NB184_183.out
             have hnb86 := NB183_186.out
             have hnc86 := NB186_183.out
             have hcz87_0 : wc.cell? ⟨gb183, 0, none⟩ = some (.int .i64 x184000_1) := (blk_cell BK183.out 0).trans rfl
             have hcz87_1 : wc.cell? ⟨gb183, 1, none⟩ = some (.int .i64 x184001_1) := (blk_cell BK183.out 1).trans rfl
             have hcz87_2 : wc.cell? ⟨gb183, 2, none⟩ = some (.int .i64 x184002_1) := (blk_cell BK183.out 2).trans rfl
             have hcz87_3 : wc.cell? ⟨gb183, 3, none⟩ = some (.int .i64 x184003_1) := (blk_cell BK183.out 3).trans rfl
             have hcz87_4 : wc.cell? ⟨gb183, 4, none⟩ = some (.int .i64 x184004_1) := (blk_cell BK183.out 4).trans rfl
             have hfz87_0 := blk_frozen BK183.out 0
             have hfz87_1 := blk_frozen BK183.out 1
             have hfz87_2 := blk_frozen BK183.out 2
             have hfz87_3 := blk_frozen BK183.out 3
             have hfz87_4 := blk_frozen BK183.out 4
             go_wp2
             repeat (go_quiet (fail); try go_wp2)
             refine bodyPost_ret (results_ct rfl _ _ gb183 74 #[.int .i64 0, .int .i64 0, .int .i64 0, .int .i64 0, .int .i64 0] (0, 0) _ rfl (by (with_reducible repeat (first | refine blk_drewN ?_ _ | refine blk_drew ?_ | refine blk_alloc ?_ _)); refine blk_put (cs := #[.int .i64 0, .int .i64 0, .int .i64 0, .int .i64 0, .int .i64 x184004_1]) ?_ 4 _ rfl; (with_reducible repeat (first | refine blk_drewN ?_ _ | refine blk_drew ?_ | refine blk_alloc ?_ _)); refine blk_put (cs := #[.int .i64 0, .int .i64 0, .int .i64 0, .int .i64 x184003_1, .int .i64 x184004_1]) ?_ 3 _ rfl; (with_reducible repeat (first | refine blk_drewN ?_ _ | refine blk_drew ?_ | refine blk_alloc ?_ _)); refine blk_put (cs := #[.int .i64 0, .int .i64 0, .int .i64 x184002_1, .int .i64 x184003_1, .int .i64 x184004_1]) ?_ 2 _ rfl; (with_reducible repeat (first | refine blk_drewN ?_ _ | refine blk_drew ?_ | refine blk_alloc ?_ _)); refine blk_put (cs := #[.int .i64 0, .int .i64 x184001_1, .int .i64 x184002_1, .int .i64 x184003_1, .int .i64 x184004_1]) ?_ 1 _ rfl; (with_reducible repeat (first | refine blk_drewN ?_ _ | refine blk_drew ?_ | refine blk_alloc ?_ _)); refine blk_put (cs := #[.int .i64 x184000_1, .int .i64 x184001_1, .int .i64 x184002_1, .int .i64 x184003_1, .int .i64 x184004_1]) ?_ 0 _ rfl; (with_reducible repeat (first | refine blk_drewN ?_ _ | refine blk_drew ?_ | refine blk_alloc ?_ _)); exact BK183.out) Try.underlying74 rfl (by kernel_rfl)) rfl ?_
             exact ⟨by first | rfl | (simp [errW_none, errW_some] <;> rfl) | (simp [*, errW_none, errW_some] <;> rfl), by repeat (first | (with_reducible first | exact HB.out | apply below_alloc | apply pw_below_drewN | apply below_drew1 | refine below_set ?_ GE183.out | refine below_set ?_ GE184.out | refine below_set ?_ GE186.out) | exact HB.out)⟩
            ·
             replace c84 := Bool.eq_false_iff.mpr c84
             subst c84
             have H1 : ((mootref4_Course_Later.f kj75 x185000_1 x185001_1 x185002_1 x185003_1 x185004_1 ((rd_T73 l0 x14_1).f2)).bind fun bt187 => ((maplit41.f ((rd_T73 l0 x14_1).f0) bt187.1).bind fun t192 => (if t192 = 0 then (some (0, 0, 0, 0, 0, 7)) else (if ((rd_T73 l0 x14_1).f0) = 5 then ((day_Months.f kj75 bt187.2.2.2.1 48).bind fun t193 => (mootref4_Follow.j4 kj75 ((rd_T73 l0 x14_1).f0) ((rd_T73 l0 x14_1).f2) t192 l0 (l0.length : Int) x14_1 (decide (((rd_T73 l0 x14_1).f2) > t193)) bt187.1 bt187.2.1 bt187.2.2.1 bt187.2.2.2.1 bt187.2.2.2.2)) else (mootref4_Follow.j4 kj75 ((rd_T73 l0 x14_1).f0) ((rd_T73 l0 x14_1).f2) t192 l0 (l0.length : Int) x14_1 false bt187.1 bt187.2.1 bt187.2.2.1 bt187.2.2.2.1 bt187.2.2.2.2))))) = some (r1, r2, r3, r4, r5, r6) := by rw [if_neg (show ¬ (false = true) by decide)] at H; exact H
             clear H
             have H := H1
             clear H1
             replace H := Option.bind_eq_some_iff.mp H
             obtain ⟨⟨t187, t188, t189, t190, t191⟩, A880, H⟩ := H
             replace H : ((maplit41.f ((rd_T73 l0 x14_1).f0) t187).bind fun t192 => (if t192 = 0 then (some (0, 0, 0, 0, 0, 7)) else (if ((rd_T73 l0 x14_1).f0) = 5 then ((day_Months.f kj75 t190 48).bind fun t193 => (mootref4_Follow.j4 kj75 ((rd_T73 l0 x14_1).f0) ((rd_T73 l0 x14_1).f2) t192 l0 (l0.length : Int) x14_1 (decide (((rd_T73 l0 x14_1).f2) > t193)) t187 t188 t189 t190 t191)) else (mootref4_Follow.j4 kj75 ((rd_T73 l0 x14_1).f0) ((rd_T73 l0 x14_1).f2) t192 l0 (l0.length : Int) x14_1 false t187 t188 t189 t190 t191)))) = some (r1, r2, r3, r4, r5, r6) := H
             have A88 := Aside0.mk A880
             clear A880
             replace H := Option.bind_eq_some_iff.mp H
             obtain ⟨t192, A890, H⟩ := H
             replace H : (if t192 = 0 then (some (0, 0, 0, 0, 0, 7)) else (if ((rd_T73 l0 x14_1).f0) = 5 then ((day_Months.f kj75 t190 48).bind fun t193 => (mootref4_Follow.j4 kj75 ((rd_T73 l0 x14_1).f0) ((rd_T73 l0 x14_1).f2) t192 l0 (l0.length : Int) x14_1 (decide (((rd_T73 l0 x14_1).f2) > t193)) t187 t188 t189 t190 t191)) else (mootref4_Follow.j4 kj75 ((rd_T73 l0 x14_1).f0) ((rd_T73 l0 x14_1).f2) t192 l0 (l0.length : Int) x14_1 false t187 t188 t189 t190 t191))) = some (r1, r2, r3, r4, r5, r6) := H
             have A89 := Aside0.mk A890
             clear A890
             by_cases c90 : t192 = 0
             ·
              rw [if_pos c90] at H
              have c90b0 : (t192 == 0) = true := beq_iff_eq.mpr c90
              have c90b1 : (t192 != 0) = false := bne_eq_false_iff_eq.mpr c90
              clear c90
              simp only [Option.some.injEq, Prod.mk.injEq] at H
              obtain ⟨rfl, rfl, rfl, rfl, rfl, rfl⟩ := H
              have hnb91 := NB184_183.out
              have hnc91 := NB183_184.out
              have hnb92 := NB184_186.out
              have hnc92 := NB186_184.out
              have hcz93_0 : wc.cell? ⟨gb184, 0, none⟩ = some (.int .i64 x185000_1) := (blk_cell BK184.out 0).trans rfl
              have hcz93_1 : wc.cell? ⟨gb184, 1, none⟩ = some (.int .i64 x185001_1) := (blk_cell BK184.out 1).trans rfl
              have hcz93_2 : wc.cell? ⟨gb184, 2, none⟩ = some (.int .i64 x185002_1) := (blk_cell BK184.out 2).trans rfl
              have hcz93_3 : wc.cell? ⟨gb184, 3, none⟩ = some (.int .i64 x185003_1) := (blk_cell BK184.out 3).trans rfl
              have hcz93_4 : wc.cell? ⟨gb184, 4, none⟩ = some (.int .i64 x185004_1) := (blk_cell BK184.out 4).trans rfl
              have hfz93_0 := blk_frozen BK184.out 0
              have hfz93_1 := blk_frozen BK184.out 1
              have hfz93_2 := blk_frozen BK184.out 2
              have hfz93_3 := blk_frozen BK184.out 3
              have hfz93_4 := blk_frozen BK184.out 4
              go_wp2_with (first | (go_at_call 43; (with_reducible refine (mootref4_Course_Later.calls kj75 x185000_1 x185001_1 x185002_1 x185003_1 x185004_1 ((rd_T73 l0 x14_1).f2) t187 t188 t189 t190 t191 _ A88.out).mono ?_); rintro e w94 ⟨rfl, hb⟩; have n0_ := Aside0.mk (blk_below (g := gb183) (o := .cells #[.int .i64 x184000_1, .int .i64 x184001_1, .int .i64 x184002_1, .int .i64 x184003_1, .int .i64 x184004_1] 74 (0, 0)) (by (with_reducible repeat (first | refine blk_drewN ?_ _ | refine blk_drew ?_ | refine blk_alloc ?_ _)); exact BK183.out) hb); have n1_ := Aside0.mk (blk_below (g := gb184) (o := .cells #[.int .i64 x185000_1, .int .i64 x185001_1, .int .i64 x185002_1, .int .i64 x185003_1, .int .i64 x185004_1] 74 (0, 0)) (by (with_reducible repeat (first | refine blk_drewN ?_ _ | refine blk_drew ?_ | refine blk_alloc ?_ _)); exact BK184.out) hb); have n2_ := Aside0.mk (blk_below (g := gb186) (o := .cells #[.int .i64 ((rd_T73 l0 x14_1).f0), .int .i64 ((rd_T73 l0 x14_1).f1), .int .i64 ((rd_T73 l0 x14_1).f2)] 73 (0, 0)) (by (with_reducible repeat (first | refine blk_drewN ?_ _ | refine blk_drew ?_ | refine blk_alloc ?_ _)); exact BK186.out) hb); have n3_ := Aside0.mk (below_step (by repeat (first | (with_reducible first | exact HB.out | apply below_alloc | apply pw_below_drewN | apply below_drew1 | refine below_set ?_ GE183.out | refine below_set ?_ GE184.out | refine below_set ?_ GE186.out) | exact HB.out)) hb); clear BK183; clear BK184; clear BK186; clear HB; have BK183 := n0_; have BK184 := n1_; have BK186 := n2_; have HB := n3_; clear n0_ n1_ n2_ n3_; (try clear hb); (try clear hb2); (try clear hk); (try clear hi); have hcz95_0 : w94.cell? ⟨gb184, 0, none⟩ = some (.int .i64 x185000_1) := (blk_cell BK184.out 0).trans rfl; have hcz95_1 : w94.cell? ⟨gb184, 1, none⟩ = some (.int .i64 x185001_1) := (blk_cell BK184.out 1).trans rfl; have hcz95_2 : w94.cell? ⟨gb184, 2, none⟩ = some (.int .i64 x185002_1) := (blk_cell BK184.out 2).trans rfl; have hcz95_3 : w94.cell? ⟨gb184, 3, none⟩ = some (.int .i64 x185003_1) := (blk_cell BK184.out 3).trans rfl; have hcz95_4 : w94.cell? ⟨gb184, 4, none⟩ = some (.int .i64 x185004_1) := (blk_cell BK184.out 4).trans rfl; have hfz95_0 := blk_frozen BK184.out 0; have hfz95_1 := blk_frozen BK184.out 1; have hfz95_2 := blk_frozen BK184.out 2; have hfz95_3 := blk_frozen BK184.out 3; have hfz95_4 := blk_frozen BK184.out 4) | ((with_reducible refine maplit41.gate ?_); refine start_ (n := 30) (S := fun w' => w'.cell? ⟨gb184, 0, none⟩ = some (.int .i64 t187)) (ds := []) #[false, false, false, false, false, false, false, false, false, false, false, false, false, false, false, false, false, false, false, false, false, false, false, false, false, false, false, false, false, false] (by kernel_rfl) rfl rfl ((blk_cell (g := gb184) (t := 74) (cs := #[.int .i64 t187, .int .i64 t188, .int .i64 t189, .int .i64 t190, .int .i64 t191]) (blk_drew ((by (with_reducible repeat (first | refine blk_drewN ?_ _ | refine blk_drew ?_ | refine blk_alloc ?_ _)); refine blk_put (cs := #[.int .i64 t187, .int .i64 t188, .int .i64 t189, .int .i64 t190, .int .i64 x185004_1]) ?_ 4 _ rfl; (with_reducible repeat (first | refine blk_drewN ?_ _ | refine blk_drew ?_ | refine blk_alloc ?_ _)); refine blk_put (cs := #[.int .i64 t187, .int .i64 t188, .int .i64 t189, .int .i64 x185003_1, .int .i64 x185004_1]) ?_ 3 _ rfl; (with_reducible repeat (first | refine blk_drewN ?_ _ | refine blk_drew ?_ | refine blk_alloc ?_ _)); refine blk_put (cs := #[.int .i64 t187, .int .i64 t188, .int .i64 x185002_1, .int .i64 x185003_1, .int .i64 x185004_1]) ?_ 2 _ rfl; (with_reducible repeat (first | refine blk_drewN ?_ _ | refine blk_drew ?_ | refine blk_alloc ?_ _)); refine blk_put (cs := #[.int .i64 t187, .int .i64 x185001_1, .int .i64 x185002_1, .int .i64 x185003_1, .int .i64 x185004_1]) ?_ 1 _ rfl; (with_reducible repeat (first | refine blk_drewN ?_ _ | refine blk_drew ?_ | refine blk_alloc ?_ _)); refine blk_put (cs := #[.int .i64 x185000_1, .int .i64 x185001_1, .int .i64 x185002_1, .int .i64 x185003_1, .int .i64 x185004_1]) ?_ 0 _ rfl; (with_reducible repeat (first | refine blk_drewN ?_ _ | refine blk_drew ?_ | refine blk_alloc ?_ _)); exact BK184.out))) 0).trans rfl) (fun hHeld => ?_); refine pure_ (i := 1) (N := some 96) (v := ?_) (a' := ?_) #[false, true, false, false, false, false, false, false, false, false, false, false, false, false, false, false, false, false, false, false, false, false, false, false, false, false, false, false, false, false] rfl rfl (by kernel_rfl) (fun _ _ _ h => h) (Or.inl ⟨by rfl, ?_⟩) ?_ ?_; rotate_left; (· intro w'; go_simp; with_reducible rfl); rotate_left; (· simp only [Act.put, List.setIfInBounds_toArray, List.set_cons_zero, List.set_cons_succ, i64_w, i32_w]; rfl); refine pure_ (i := 3) (N := some 97) (v := ?_) (a' := ?_) #[false, true, false, true, false, false, false, false, false, false, false, false, false, false, false, false, false, false, false, false, false, false, false, false, false, false, false, false, false, false] rfl rfl (by kernel_rfl) (fun _ _ _ h => h) (Or.inl ⟨by rfl, ?_⟩) ?_ ?_; rotate_left; (· intro w'; go_simp; with_reducible rfl); rotate_left; (· simp only [Act.put, List.setIfInBounds_toArray, List.set_cons_zero, List.set_cons_succ, i64_w, i32_w]; rfl); refine pure_ (i := 5) (N := some 98) (v := ?_) (a' := ?_) #[false, true, false, true, false, true, false, false, false, false, false, false, false, false, false, false, false, false, false, false, false, false, false, false, false, false, false, false, false, false] rfl rfl (by kernel_rfl) (fun _ _ _ h => h) (Or.inl ⟨by rfl, ?_⟩) ?_ ?_; rotate_left; (· intro w'; go_simp; with_reducible rfl); rotate_left; (· simp only [Act.put, List.setIfInBounds_toArray, List.set_cons_zero, List.set_cons_succ, i64_w, i32_w]; rfl); refine pure_ (i := 7) (N := some 99) (v := ?_) (a' := ?_) #[false, true, false, true, false, true, false, true, false, false, false, false, false, false, false, false, false, false, false, false, false, false, false, false, false, false, false, false, false, false] rfl rfl (by kernel_rfl) (fun _ _ _ h => h) (Or.inl ⟨by rfl, ?_⟩) ?_ ?_; rotate_left; (· intro w'; go_simp; with_reducible rfl); rotate_left; (· simp only [Act.put, List.setIfInBounds_toArray, List.set_cons_zero, List.set_cons_succ, i64_w, i32_w]; rfl); refine pure_ (i := 9) (N := some 100) (v := ?_) (a' := ?_) #[false, true, false, true, false, true, false, true, false, true, false, false, false, false, false, false, false, false, false, false, false, false, false, false, false, false, false, false, false, false] rfl rfl (by kernel_rfl) (fun _ _ _ h => h) (Or.inl ⟨by rfl, ?_⟩) ?_ ?_; rotate_left; (· intro w'; go_simp; with_reducible rfl); rotate_left; (· simp only [Act.put, List.setIfInBounds_toArray, List.set_cons_zero, List.set_cons_succ, i64_w, i32_w]; rfl); refine pure_ (i := 11) (N := some 101) (v := ?_) (a' := ?_) #[false, true, false, true, false, true, false, true, false, true, false, true, false, false, false, false, false, false, false, false, false, false, false, false, false, false, false, false, false, false] rfl rfl (by kernel_rfl) (fun _ _ _ h => h) (Or.inl ⟨by rfl, ?_⟩) ?_ ?_; rotate_left; (· intro w'; go_simp; with_reducible rfl); rotate_left; (· simp only [Act.put, List.setIfInBounds_toArray, List.set_cons_zero, List.set_cons_succ, i64_w, i32_w]; rfl); refine pure_ (i := 13) (N := some 102) (v := ?_) (a' := ?_) #[false, true, false, true, false, true, false, true, false, true, false, true, false, true, false, false, false, false, false, false, false, false, false, false, false, false, false, false, false, false] rfl rfl (by kernel_rfl) (fun _ _ _ h => h) (Or.inl ⟨by rfl, ?_⟩) ?_ ?_; rotate_left; (· intro w'; go_simp; with_reducible rfl); rotate_left; (· simp only [Act.put, List.setIfInBounds_toArray, List.set_cons_zero, List.set_cons_succ, i64_w, i32_w]; rfl); refine pure_ (i := 15) (N := some 103) (v := ?_) (a' := ?_) #[false, true, false, true, false, true, false, true, false, true, false, true, false, true, false, true, false, false, false, false, false, false, false, false, false, false, false, false, false, false] rfl rfl (by kernel_rfl) (fun _ _ _ h => h) (Or.inl ⟨by rfl, ?_⟩) ?_ ?_; rotate_left; (· intro w'; go_simp; with_reducible rfl); rotate_left; (· simp only [Act.put, List.setIfInBounds_toArray, List.set_cons_zero, List.set_cons_succ, i64_w, i32_w]; rfl); refine pure_ (i := 17) (N := some 104) (v := ?_) (a' := ?_) #[false, true, false, true, false, true, false, true, false, true, false, true, false, true, false, true, false, true, false, false, false, false, false, false, false, false, false, false, false, false] rfl rfl (by kernel_rfl) (fun _ _ _ h => h) (Or.inl ⟨by rfl, ?_⟩) ?_ ?_; rotate_left; (· intro w'; go_simp; with_reducible rfl); rotate_left; (· simp only [Act.put, List.setIfInBounds_toArray, List.set_cons_zero, List.set_cons_succ, i64_w, i32_w]; rfl); refine pure_ (i := 19) (N := some 105) (v := ?_) (a' := ?_) #[false, true, false, true, false, true, false, true, false, true, false, true, false, true, false, true, false, true, false, true, false, false, false, false, false, false, false, false, false, false] rfl rfl (by kernel_rfl) (fun _ _ _ h => h) (Or.inl ⟨by rfl, ?_⟩) ?_ ?_; rotate_left; (· intro w'; go_simp; with_reducible rfl); rotate_left; (· simp only [Act.put, List.setIfInBounds_toArray, List.set_cons_zero, List.set_cons_succ, i64_w, i32_w]; rfl); refine pure_ (i := 21) (N := some 106) (v := ?_) (a' := ?_) #[false, true, false, true, false, true, false, true, false, true, false, true, false, true, false, true, false, true, false, true, false, true, false, false, false, false, false, false, false, false] rfl rfl (by kernel_rfl) (fun _ _ _ h => h) (Or.inl ⟨by rfl, ?_⟩) ?_ ?_; rotate_left; (· intro w'; go_simp; with_reducible rfl); rotate_left; (· simp only [Act.put, List.setIfInBounds_toArray, List.set_cons_zero, List.set_cons_succ, i64_w, i32_w]; rfl); refine pure_ (i := 24) (N := some 108) (v := ?_) (a' := ?_) #[false, true, false, true, false, true, false, true, false, true, false, true, false, true, false, true, false, true, false, true, false, true, false, false, true, false, false, false, false, false] rfl rfl (by kernel_rfl) (fun _ _ _ h => h) (Or.inl ⟨by rfl, ?_⟩) ?_ ?_; rotate_left; (· intro w'; go_simp; with_reducible rfl); rotate_left; (· simp only [Act.put, List.setIfInBounds_toArray, List.set_cons_zero, List.set_cons_succ, i64_w, i32_w]; rfl); refine pure_ (i := 25) (N := some 109) (v := ?_) (a' := ?_) #[false, true, false, true, false, true, false, true, false, true, false, true, false, true, false, true, false, true, false, true, false, true, false, false, true, true, false, false, false, false] rfl rfl (by kernel_rfl) (fun _ _ _ h => h) (Or.inl ⟨by rfl, ?_⟩) ?_ ?_; rotate_left; (· intro w'; go_simp; with_reducible rfl); rotate_left; (· simp only [Act.put, List.setIfInBounds_toArray, List.set_cons_zero, List.set_cons_succ, i64_w, i32_w]; rfl); refine take_ (i := 26) (N := some 110) (v := ?_) (a' := ?_) #[false, true, false, true, false, true, false, true, false, true, false, true, false, true, false, true, false, true, false, true, false, true, false, false, true, true, true, false, false, false] rfl rfl (by kernel_rfl) (fun _ _ _ h => h) (Or.inl ⟨by rfl, ?_⟩) hHeld ?_ ?_; rotate_left; (· intro w' s0; go_simp; with_reducible rfl); rotate_left; (· simp only [Act.put, List.setIfInBounds_toArray, List.set_cons_zero, List.set_cons_succ, i64_w, i32_w]; rfl); refine pure_ (i := 27) (N := some 111) (v := ?_) (a' := ?_) #[false, true, false, true, false, true, false, true, false, true, false, true, false, true, false, true, false, true, false, true, false, true, false, false, true, true, true, true, false, false] rfl rfl (by kernel_rfl) (fun _ _ _ h => h) (Or.inl ⟨by rfl, ?_⟩) ?_ ?_; rotate_left; (· intro w'; go_simp; with_reducible rfl); rotate_left; (· simp only [Act.put, List.setIfInBounds_toArray, List.set_cons_zero, List.set_cons_succ, i64_w, i32_w]; rfl); refine one_ (i := 0) (N := some 95) #[true, true, false, true, false, true, false, true, false, true, false, true, false, true, false, true, false, true, false, true, false, true, false, false, true, true, true, true, false, false] rfl rfl (by kernel_rfl) (by decide) (fun K hK => ?_); have hW_ := hHeld; refine maplit41.mk (by rfl) rfl rfl ?_; intro bm_ wm0_ ST0_; refine hK.out _ _ (ST0_.celld hW_) (fun hHeld => ?_); clear hK K; refine norm_ (a' := ?_) ?_ ?_; rotate_left; (· show Act.put _ (some 95) _ = _; simp only [Act.put, List.setIfInBounds_toArray, List.set_cons_zero, List.set_cons_succ, i64_w, i32_w]; rfl); refine maplit41.fill (by kernel_rfl) (bk := bm_) (by rfl) (by rfl) (by rfl) (by rfl) (by rfl) (by rfl) (by rfl) (by rfl) (by rfl) (by rfl) (by rfl) (by rfl) (fun w' n M s => s.celld hW_) 3 (fun w96 st_ => ?_) 11 false false false false false false false false false false false rfl wm0_ (by rw [maplit41.Mb_none]; exact ST0_); rw [maplit41.M_eq] at st_; have hHeld := st_.celld hW_; refine pure_ (i := 23) (N := some 107) (v := ?_) (a' := ?_) #[true, true, true, true, true, true, true, true, true, true, true, true, true, true, true, true, true, true, true, true, true, true, true, true, true, true, true, true, false, false] rfl rfl (by kernel_rfl) (fun _ _ _ h => h) (Or.inl ⟨by rfl, ?_⟩) ?_ ?_; rotate_left; (· intro w'; go_simp; with_reducible rfl); rotate_left; (· simp only [Act.put, List.setIfInBounds_toArray, List.set_cons_zero, List.set_cons_succ, i64_w, i32_w]; rfl); refine one_ (i := 28) (N := some 112) #[true, true, true, true, true, true, true, true, true, true, true, true, true, true, true, true, true, true, true, true, true, true, true, true, true, true, true, true, true, false] rfl rfl (by kernel_rfl) (by decide) (fun K hK => ?_); refine maplit41.look st_ A89.out (by rfl) rfl (.tmp 107) (.tmp 111) rfl (by rfl) (by rfl) ?_; refine hK.out _ _ (hHeld) (fun hHeld => ?_); clear hK K; refine norm_ (a' := ?_) ?_ ?_; rotate_left; (· show Act.put _ (some 112) _ = _; simp only [Act.put, List.setIfInBounds_toArray, List.set_cons_zero, List.set_cons_succ, i64_w, i32_w]; rfl); refine pure_ (i := 29) (N := some 10) (v := ?_) (a' := ?_) #[true, true, true, true, true, true, true, true, true, true, true, true, true, true, true, true, true, true, true, true, true, true, true, true, true, true, true, true, true, true] rfl rfl (by kernel_rfl) (fun _ _ _ h => h) (Or.inl ⟨by rfl, ?_⟩) ?_ ?_; rotate_left; (· intro w'; go_simp; with_reducible rfl); rotate_left; (· simp only [Act.put, List.setIfInBounds_toArray, List.set_cons_zero, List.set_cons_succ, i64_w, i32_w]; rfl); refine done_ (by kernel_rfl) ?_; have hb := st_.2.1; clear hHeld hW_ st_ ST0_; have n0_ := Aside0.mk (blk_below (g := gb183) (o := .cells #[.int .i64 x184000_1, .int .i64 x184001_1, .int .i64 x184002_1, .int .i64 x184003_1, .int .i64 x184004_1] 74 (0, 0)) (by (with_reducible repeat (first | refine blk_drewN ?_ _ | refine blk_drew ?_ | refine blk_alloc ?_ _)); refine blk_far ?_ NB183_184.out _; (with_reducible repeat (first | refine blk_drewN ?_ _ | refine blk_drew ?_ | refine blk_alloc ?_ _)); refine blk_far ?_ NB183_184.out _; (with_reducible repeat (first | refine blk_drewN ?_ _ | refine blk_drew ?_ | refine blk_alloc ?_ _)); refine blk_far ?_ NB183_184.out _; (with_reducible repeat (first | refine blk_drewN ?_ _ | refine blk_drew ?_ | refine blk_alloc ?_ _)); refine blk_far ?_ NB183_184.out _; (with_reducible repeat (first | refine blk_drewN ?_ _ | refine blk_drew ?_ | refine blk_alloc ?_ _)); refine blk_far ?_ NB183_184.out _; (with_reducible repeat (first | refine blk_drewN ?_ _ | refine blk_drew ?_ | refine blk_alloc ?_ _)); exact BK183.out) hb); have n1_ := Aside0.mk (blk_below (g := gb184) (o := .cells #[.int .i64 t187, .int .i64 t188, .int .i64 t189, .int .i64 t190, .int .i64 t191] 74 (0, 0)) (by (with_reducible repeat (first | refine blk_drewN ?_ _ | refine blk_drew ?_ | refine blk_alloc ?_ _)); refine blk_put (cs := #[.int .i64 t187, .int .i64 t188, .int .i64 t189, .int .i64 t190, .int .i64 x185004_1]) ?_ 4 _ rfl; (with_reducible repeat (first | refine blk_drewN ?_ _ | refine blk_drew ?_ | refine blk_alloc ?_ _)); refine blk_put (cs := #[.int .i64 t187, .int .i64 t188, .int .i64 t189, .int .i64 x185003_1, .int .i64 x185004_1]) ?_ 3 _ rfl; (with_reducible repeat (first | refine blk_drewN ?_ _ | refine blk_drew ?_ | refine blk_alloc ?_ _)); refine blk_put (cs := #[.int .i64 t187, .int .i64 t188, .int .i64 x185002_1, .int .i64 x185003_1, .int .i64 x185004_1]) ?_ 2 _ rfl; (with_reducible repeat (first | refine blk_drewN ?_ _ | refine blk_drew ?_ | refine blk_alloc ?_ _)); refine blk_put (cs := #[.int .i64 t187, .int .i64 x185001_1, .int .i64 x185002_1, .int .i64 x185003_1, .int .i64 x185004_1]) ?_ 1 _ rfl; (with_reducible repeat (first | refine blk_drewN ?_ _ | refine blk_drew ?_ | refine blk_alloc ?_ _)); refine blk_put (cs := #[.int .i64 x185000_1, .int .i64 x185001_1, .int .i64 x185002_1, .int .i64 x185003_1, .int .i64 x185004_1]) ?_ 0 _ rfl; (with_reducible repeat (first | refine blk_drewN ?_ _ | refine blk_drew ?_ | refine blk_alloc ?_ _)); exact BK184.out) hb); have n2_ := Aside0.mk (blk_below (g := gb186) (o := .cells #[.int .i64 ((rd_T73 l0 x14_1).f0), .int .i64 ((rd_T73 l0 x14_1).f1), .int .i64 ((rd_T73 l0 x14_1).f2)] 73 (0, 0)) (by (with_reducible repeat (first | refine blk_drewN ?_ _ | refine blk_drew ?_ | refine blk_alloc ?_ _)); refine blk_far ?_ NB186_184.out _; (with_reducible repeat (first | refine blk_drewN ?_ _ | refine blk_drew ?_ | refine blk_alloc ?_ _)); refine blk_far ?_ NB186_184.out _; (with_reducible repeat (first | refine blk_drewN ?_ _ | refine blk_drew ?_ | refine blk_alloc ?_ _)); refine blk_far ?_ NB186_184.out _; (with_reducible repeat (first | refine blk_drewN ?_ _ | refine blk_drew ?_ | refine blk_alloc ?_ _)); refine blk_far ?_ NB186_184.out _; (with_reducible repeat (first | refine blk_drewN ?_ _ | refine blk_drew ?_ | refine blk_alloc ?_ _)); refine blk_far ?_ NB186_184.out _; (with_reducible repeat (first | refine blk_drewN ?_ _ | refine blk_drew ?_ | refine blk_alloc ?_ _)); exact BK186.out) hb); have n3_ := Aside0.mk (below_step (by repeat (first | (with_reducible first | exact HB.out | apply below_alloc | apply pw_below_drewN | apply below_drew1 | refine below_set ?_ GE183.out | refine below_set ?_ GE184.out | refine below_set ?_ GE186.out) | exact HB.out)) hb); clear BK183; clear BK184; clear BK186; clear HB; have BK183 := n0_; have BK184 := n1_; have BK186 := n2_; have HB := n3_; clear n0_ n1_ n2_ n3_; (try clear hb); (try clear hb2); (try clear hk); (try clear hi); have hnb97 := NB183_186.out; have hnc97 := NB186_183.out; have hcz98_0 : w96.cell? ⟨gb183, 0, none⟩ = some (.int .i64 x184000_1) := (blk_cell BK183.out 0).trans rfl; have hcz98_1 : w96.cell? ⟨gb183, 1, none⟩ = some (.int .i64 x184001_1) := (blk_cell BK183.out 1).trans rfl; have hcz98_2 : w96.cell? ⟨gb183, 2, none⟩ = some (.int .i64 x184002_1) := (blk_cell BK183.out 2).trans rfl; have hcz98_3 : w96.cell? ⟨gb183, 3, none⟩ = some (.int .i64 x184003_1) := (blk_cell BK183.out 3).trans rfl; have hcz98_4 : w96.cell? ⟨gb183, 4, none⟩ = some (.int .i64 x184004_1) := (blk_cell BK183.out 4).trans rfl; have hfz98_0 := blk_frozen BK183.out 0; have hfz98_1 := blk_frozen BK183.out 1; have hfz98_2 := blk_frozen BK183.out 2; have hfz98_3 := blk_frozen BK183.out 3; have hfz98_4 := blk_frozen BK183.out 4))
              repeat (go_quiet (fail); try go_wp2)
              refine bodyPost_ret (results_ct rfl _ _ gb183 74 #[.int .i64 0, .int .i64 0, .int .i64 0, .int .i64 0, .int .i64 0] (0, 0) _ rfl (by (with_reducible repeat (first | refine blk_drewN ?_ _ | refine blk_drew ?_ | refine blk_alloc ?_ _)); refine blk_put (cs := #[.int .i64 0, .int .i64 0, .int .i64 0, .int .i64 0, .int .i64 x184004_1]) ?_ 4 _ rfl; (with_reducible repeat (first | refine blk_drewN ?_ _ | refine blk_drew ?_ | refine blk_alloc ?_ _)); refine blk_put (cs := #[.int .i64 0, .int .i64 0, .int .i64 0, .int .i64 x184003_1, .int .i64 x184004_1]) ?_ 3 _ rfl; (with_reducible repeat (first | refine blk_drewN ?_ _ | refine blk_drew ?_ | refine blk_alloc ?_ _)); refine blk_put (cs := #[.int .i64 0, .int .i64 0, .int .i64 x184002_1, .int .i64 x184003_1, .int .i64 x184004_1]) ?_ 2 _ rfl; (with_reducible repeat (first | refine blk_drewN ?_ _ | refine blk_drew ?_ | refine blk_alloc ?_ _)); refine blk_put (cs := #[.int .i64 0, .int .i64 x184001_1, .int .i64 x184002_1, .int .i64 x184003_1, .int .i64 x184004_1]) ?_ 1 _ rfl; (with_reducible repeat (first | refine blk_drewN ?_ _ | refine blk_drew ?_ | refine blk_alloc ?_ _)); refine blk_put (cs := #[.int .i64 x184000_1, .int .i64 x184001_1, .int .i64 x184002_1, .int .i64 x184003_1, .int .i64 x184004_1]) ?_ 0 _ rfl; (with_reducible repeat (first | refine blk_drewN ?_ _ | refine blk_drew ?_ | refine blk_alloc ?_ _)); exact BK183.out) Try.underlying74 rfl (by kernel_rfl)) rfl ?_
              exact ⟨by first | rfl | (simp [errW_none, errW_some] <;> rfl) | (simp [*, errW_none, errW_some] <;> rfl), by repeat (first | (with_reducible first | exact HB.out | apply below_alloc | apply pw_below_drewN | apply below_drew1 | refine below_set ?_ GE183.out | refine below_set ?_ GE184.out | refine below_set ?_ GE186.out) | exact HB.out)⟩
             · as_aux_lemma =>
              rw [if_neg c90] at H
              have c90b0 : (t192 == 0) = false := beq_eq_false_iff_ne.mpr c90
              have c90b1 : (t192 != 0) = true := bne_iff_ne.mpr c90
              have HC99 := Aside0.mk H
              clear H
              have hnb100 := NB184_183.out
              have hnc100 := NB183_184.out
              have hnb101 := NB184_186.out
              have hnc101 := NB186_184.out
              have hcz102_0 : wc.cell? ⟨gb184, 0, none⟩ = some (.int .i64 x185000_1) := (blk_cell BK184.out 0).trans rfl
              have hcz102_1 : wc.cell? ⟨gb184, 1, none⟩ = some (.int .i64 x185001_1) := (blk_cell BK184.out 1).trans rfl
              have hcz102_2 : wc.cell? ⟨gb184, 2, none⟩ = some (.int .i64 x185002_1) := (blk_cell BK184.out 2).trans rfl
              have hcz102_3 : wc.cell? ⟨gb184, 3, none⟩ = some (.int .i64 x185003_1) := (blk_cell BK184.out 3).trans rfl
              have hcz102_4 : wc.cell? ⟨gb184, 4, none⟩ = some (.int .i64 x185004_1) := (blk_cell BK184.out 4).trans rfl
              have hfz102_0 := blk_frozen BK184.out 0
              have hfz102_1 := blk_frozen BK184.out 1
              have hfz102_2 := blk_frozen BK184.out 2
              have hfz102_3 := blk_frozen BK184.out 3
              have hfz102_4 := blk_frozen BK184.out 4
              go_upto_region 16 with (first | (go_at_call 43; (with_reducible refine (mootref4_Course_Later.calls kj75 x185000_1 x185001_1 x185002_1 x185003_1 x185004_1 ((rd_T73 l0 x14_1).f2) t187 t188 t189 t190 t191 _ A88.out).mono ?_); rintro e w103 ⟨rfl, hb⟩; have n0_ := Aside0.mk (blk_below (g := gb183) (o := .cells #[.int .i64 x184000_1, .int .i64 x184001_1, .int .i64 x184002_1, .int .i64 x184003_1, .int .i64 x184004_1] 74 (0, 0)) (by (with_reducible repeat (first | refine blk_drewN ?_ _ | refine blk_drew ?_ | refine blk_alloc ?_ _)); exact BK183.out) hb); have n1_ := Aside0.mk (blk_below (g := gb184) (o := .cells #[.int .i64 x185000_1, .int .i64 x185001_1, .int .i64 x185002_1, .int .i64 x185003_1, .int .i64 x185004_1] 74 (0, 0)) (by (with_reducible repeat (first | refine blk_drewN ?_ _ | refine blk_drew ?_ | refine blk_alloc ?_ _)); exact BK184.out) hb); have n2_ := Aside0.mk (blk_below (g := gb186) (o := .cells #[.int .i64 ((rd_T73 l0 x14_1).f0), .int .i64 ((rd_T73 l0 x14_1).f1), .int .i64 ((rd_T73 l0 x14_1).f2)] 73 (0, 0)) (by (with_reducible repeat (first | refine blk_drewN ?_ _ | refine blk_drew ?_ | refine blk_alloc ?_ _)); exact BK186.out) hb); have n3_ := Aside0.mk (below_step (by repeat (first | (with_reducible first | exact HB.out | apply below_alloc | apply pw_below_drewN | apply below_drew1 | refine below_set ?_ GE183.out | refine below_set ?_ GE184.out | refine below_set ?_ GE186.out) | exact HB.out)) hb); clear BK183; clear BK184; clear BK186; clear HB; have BK183 := n0_; have BK184 := n1_; have BK186 := n2_; have HB := n3_; clear n0_ n1_ n2_ n3_; (try clear hb); (try clear hb2); (try clear hk); (try clear hi); have hcz104_0 : w103.cell? ⟨gb184, 0, none⟩ = some (.int .i64 x185000_1) := (blk_cell BK184.out 0).trans rfl; have hcz104_1 : w103.cell? ⟨gb184, 1, none⟩ = some (.int .i64 x185001_1) := (blk_cell BK184.out 1).trans rfl; have hcz104_2 : w103.cell? ⟨gb184, 2, none⟩ = some (.int .i64 x185002_1) := (blk_cell BK184.out 2).trans rfl; have hcz104_3 : w103.cell? ⟨gb184, 3, none⟩ = some (.int .i64 x185003_1) := (blk_cell BK184.out 3).trans rfl; have hcz104_4 : w103.cell? ⟨gb184, 4, none⟩ = some (.int .i64 x185004_1) := (blk_cell BK184.out 4).trans rfl; have hfz104_0 := blk_frozen BK184.out 0; have hfz104_1 := blk_frozen BK184.out 1; have hfz104_2 := blk_frozen BK184.out 2; have hfz104_3 := blk_frozen BK184.out 3; have hfz104_4 := blk_frozen BK184.out 4) | ((with_reducible refine maplit41.gate ?_); refine start_ (n := 30) (S := fun w' => w'.cell? ⟨gb184, 0, none⟩ = some (.int .i64 t187)) (ds := []) #[false, false, false, false, false, false, false, false, false, false, false, false, false, false, false, false, false, false, false, false, false, false, false, false, false, false, false, false, false, false] (by kernel_rfl) rfl rfl ((blk_cell (g := gb184) (t := 74) (cs := #[.int .i64 t187, .int .i64 t188, .int .i64 t189, .int .i64 t190, .int .i64 t191]) (blk_drew ((by (with_reducible repeat (first | refine blk_drewN ?_ _ | refine blk_drew ?_ | refine blk_alloc ?_ _)); refine blk_put (cs := #[.int .i64 t187, .int .i64 t188, .int .i64 t189, .int .i64 t190, .int .i64 x185004_1]) ?_ 4 _ rfl; (with_reducible repeat (first | refine blk_drewN ?_ _ | refine blk_drew ?_ | refine blk_alloc ?_ _)); refine blk_put (cs := #[.int .i64 t187, .int .i64 t188, .int .i64 t189, .int .i64 x185003_1, .int .i64 x185004_1]) ?_ 3 _ rfl; (with_reducible repeat (first | refine blk_drewN ?_ _ | refine blk_drew ?_ | refine blk_alloc ?_ _)); refine blk_put (cs := #[.int .i64 t187, .int .i64 t188, .int .i64 x185002_1, .int .i64 x185003_1, .int .i64 x185004_1]) ?_ 2 _ rfl; (with_reducible repeat (first | refine blk_drewN ?_ _ | refine blk_drew ?_ | refine blk_alloc ?_ _)); refine blk_put (cs := #[.int .i64 t187, .int .i64 x185001_1, .int .i64 x185002_1, .int .i64 x185003_1, .int .i64 x185004_1]) ?_ 1 _ rfl; (with_reducible repeat (first | refine blk_drewN ?_ _ | refine blk_drew ?_ | refine blk_alloc ?_ _)); refine blk_put (cs := #[.int .i64 x185000_1, .int .i64 x185001_1, .int .i64 x185002_1, .int .i64 x185003_1, .int .i64 x185004_1]) ?_ 0 _ rfl; (with_reducible repeat (first | refine blk_drewN ?_ _ | refine blk_drew ?_ | refine blk_alloc ?_ _)); exact BK184.out))) 0).trans rfl) (fun hHeld => ?_); refine pure_ (i := 1) (N := some 96) (v := ?_) (a' := ?_) #[false, true, false, false, false, false, false, false, false, false, false, false, false, false, false, false, false, false, false, false, false, false, false, false, false, false, false, false, false, false] rfl rfl (by kernel_rfl) (fun _ _ _ h => h) (Or.inl ⟨by rfl, ?_⟩) ?_ ?_; rotate_left; (· intro w'; go_simp; with_reducible rfl); rotate_left; (· simp only [Act.put, List.setIfInBounds_toArray, List.set_cons_zero, List.set_cons_succ, i64_w, i32_w]; rfl); refine pure_ (i := 3) (N := some 97) (v := ?_) (a' := ?_) #[false, true, false, true, false, false, false, false, false, false, false, false, false, false, false, false, false, false, false, false, false, false, false, false, false, false, false, false, false, false] rfl rfl (by kernel_rfl) (fun _ _ _ h => h) (Or.inl ⟨by rfl, ?_⟩) ?_ ?_; rotate_left; (· intro w'; go_simp; with_reducible rfl); rotate_left; (· simp only [Act.put, List.setIfInBounds_toArray, List.set_cons_zero, List.set_cons_succ, i64_w, i32_w]; rfl); refine pure_ (i := 5) (N := some 98) (v := ?_) (a' := ?_) #[false, true, false, true, false, true, false, false, false, false, false, false, false, false, false, false, false, false, false, false, false, false, false, false, false, false, false, false, false, false] rfl rfl (by kernel_rfl) (fun _ _ _ h => h) (Or.inl ⟨by rfl, ?_⟩) ?_ ?_; rotate_left; (· intro w'; go_simp; with_reducible rfl); rotate_left; (· simp only [Act.put, List.setIfInBounds_toArray, List.set_cons_zero, List.set_cons_succ, i64_w, i32_w]; rfl); refine pure_ (i := 7) (N := some 99) (v := ?_) (a' := ?_) #[false, true, false, true, false, true, false, true, false, false, false, false, false, false, false, false, false, false, false, false, false, false, false, false, false, false, false, false, false, false] rfl rfl (by kernel_rfl) (fun _ _ _ h => h) (Or.inl ⟨by rfl, ?_⟩) ?_ ?_; rotate_left; (· intro w'; go_simp; with_reducible rfl); rotate_left; (· simp only [Act.put, List.setIfInBounds_toArray, List.set_cons_zero, List.set_cons_succ, i64_w, i32_w]; rfl); refine pure_ (i := 9) (N := some 100) (v := ?_) (a' := ?_) #[false, true, false, true, false, true, false, true, false, true, false, false, false, false, false, false, false, false, false, false, false, false, false, false, false, false, false, false, false, false] rfl rfl (by kernel_rfl) (fun _ _ _ h => h) (Or.inl ⟨by rfl, ?_⟩) ?_ ?_; rotate_left; (· intro w'; go_simp; with_reducible rfl); rotate_left; (· simp only [Act.put, List.setIfInBounds_toArray, List.set_cons_zero, List.set_cons_succ, i64_w, i32_w]; rfl); refine pure_ (i := 11) (N := some 101) (v := ?_) (a' := ?_) #[false, true, false, true, false, true, false, true, false, true, false, true, false, false, false, false, false, false, false, false, false, false, false, false, false, false, false, false, false, false] rfl rfl (by kernel_rfl) (fun _ _ _ h => h) (Or.inl ⟨by rfl, ?_⟩) ?_ ?_; rotate_left; (· intro w'; go_simp; with_reducible rfl); rotate_left; (· simp only [Act.put, List.setIfInBounds_toArray, List.set_cons_zero, List.set_cons_succ, i64_w, i32_w]; rfl); refine pure_ (i := 13) (N := some 102) (v := ?_) (a' := ?_) #[false, true, false, true, false, true, false, true, false, true, false, true, false, true, false, false, false, false, false, false, false, false, false, false, false, false, false, false, false, false] rfl rfl (by kernel_rfl) (fun _ _ _ h => h) (Or.inl ⟨by rfl, ?_⟩) ?_ ?_; rotate_left; (· intro w'; go_simp; with_reducible rfl); rotate_left; (· simp only [Act.put, List.setIfInBounds_toArray, List.set_cons_zero, List.set_cons_succ, i64_w, i32_w]; rfl); refine pure_ (i := 15) (N := some 103) (v := ?_) (a' := ?_) #[false, true, false, true, false, true, false, true, false, true, false, true, false, true, false, true, false, false, false, false, false, false, false, false, false, false, false, false, false, false] rfl rfl (by kernel_rfl) (fun _ _ _ h => h) (Or.inl ⟨by rfl, ?_⟩) ?_ ?_; rotate_left; (· intro w'; go_simp; with_reducible rfl); rotate_left; (· simp only [Act.put, List.setIfInBounds_toArray, List.set_cons_zero, List.set_cons_succ, i64_w, i32_w]; rfl); refine pure_ (i := 17) (N := some 104) (v := ?_) (a' := ?_) #[false, true, false, true, false, true, false, true, false, true, false, true, false, true, false, true, false, true, false, false, false, false, false, false, false, false, false, false, false, false] rfl rfl (by kernel_rfl) (fun _ _ _ h => h) (Or.inl ⟨by rfl, ?_⟩) ?_ ?_; rotate_left; (· intro w'; go_simp; with_reducible rfl); rotate_left; (· simp only [Act.put, List.setIfInBounds_toArray, List.set_cons_zero, List.set_cons_succ, i64_w, i32_w]; rfl); refine pure_ (i := 19) (N := some 105) (v := ?_) (a' := ?_) #[false, true, false, true, false, true, false, true, false, true, false, true, false, true, false, true, false, true, false, true, false, false, false, false, false, false, false, false, false, false] rfl rfl (by kernel_rfl) (fun _ _ _ h => h) (Or.inl ⟨by rfl, ?_⟩) ?_ ?_; rotate_left; (· intro w'; go_simp; with_reducible rfl); rotate_left; (· simp only [Act.put, List.setIfInBounds_toArray, List.set_cons_zero, List.set_cons_succ, i64_w, i32_w]; rfl); refine pure_ (i := 21) (N := some 106) (v := ?_) (a' := ?_) #[false, true, false, true, false, true, false, true, false, true, false, true, false, true, false, true, false, true, false, true, false, true, false, false, false, false, false, false, false, false] rfl rfl (by kernel_rfl) (fun _ _ _ h => h) (Or.inl ⟨by rfl, ?_⟩) ?_ ?_; rotate_left; (· intro w'; go_simp; with_reducible rfl); rotate_left; (· simp only [Act.put, List.setIfInBounds_toArray, List.set_cons_zero, List.set_cons_succ, i64_w, i32_w]; rfl); refine pure_ (i := 24) (N := some 108) (v := ?_) (a' := ?_) #[false, true, false, true, false, true, false, true, false, true, false, true, false, true, false, true, false, true, false, true, false, true, false, false, true, false, false, false, false, false] rfl rfl (by kernel_rfl) (fun _ _ _ h => h) (Or.inl ⟨by rfl, ?_⟩) ?_ ?_; rotate_left; (· intro w'; go_simp; with_reducible rfl); rotate_left; (· simp only [Act.put, List.setIfInBounds_toArray, List.set_cons_zero, List.set_cons_succ, i64_w, i32_w]; rfl); refine pure_ (i := 25) (N := some 109) (v := ?_) (a' := ?_) #[false, true, false, true, false, true, false, true, false, true, false, true, false, true, false, true, false, true, false, true, false, true, false, false, true, true, false, false, false, false] rfl rfl (by kernel_rfl) (fun _ _ _ h => h) (Or.inl ⟨by rfl, ?_⟩) ?_ ?_; rotate_left; (· intro w'; go_simp; with_reducible rfl); rotate_left; (· simp only [Act.put, List.setIfInBounds_toArray, List.set_cons_zero, List.set_cons_succ, i64_w, i32_w]; rfl); refine take_ (i := 26) (N := some 110) (v := ?_) (a' := ?_) #[false, true, false, true, false, true, false, true, false, true, false, true, false, true, false, true, false, true, false, true, false, true, false, false, true, true, true, false, false, false] rfl rfl (by kernel_rfl) (fun _ _ _ h => h) (Or.inl ⟨by rfl, ?_⟩) hHeld ?_ ?_; rotate_left; (· intro w' s0; go_simp; with_reducible rfl); rotate_left; (· simp only [Act.put, List.setIfInBounds_toArray, List.set_cons_zero, List.set_cons_succ, i64_w, i32_w]; rfl); refine pure_ (i := 27) (N := some 111) (v := ?_) (a' := ?_) #[false, true, false, true, false, true, false, true, false, true, false, true, false, true, false, true, false, true, false, true, false, true, false, false, true, true, true, true, false, false] rfl rfl (by kernel_rfl) (fun _ _ _ h => h) (Or.inl ⟨by rfl, ?_⟩) ?_ ?_; rotate_left; (· intro w'; go_simp; with_reducible rfl); rotate_left; (· simp only [Act.put, List.setIfInBounds_toArray, List.set_cons_zero, List.set_cons_succ, i64_w, i32_w]; rfl); refine one_ (i := 0) (N := some 95) #[true, true, false, true, false, true, false, true, false, true, false, true, false, true, false, true, false, true, false, true, false, true, false, false, true, true, true, true, false, false] rfl rfl (by kernel_rfl) (by decide) (fun K hK => ?_); have hW_ := hHeld; refine maplit41.mk (by rfl) rfl rfl ?_; intro bm_ wm0_ ST0_; refine hK.out _ _ (ST0_.celld hW_) (fun hHeld => ?_); clear hK K; refine norm_ (a' := ?_) ?_ ?_; rotate_left; (· show Act.put _ (some 95) _ = _; simp only [Act.put, List.setIfInBounds_toArray, List.set_cons_zero, List.set_cons_succ, i64_w, i32_w]; rfl); refine maplit41.fill (by kernel_rfl) (bk := bm_) (by rfl) (by rfl) (by rfl) (by rfl) (by rfl) (by rfl) (by rfl) (by rfl) (by rfl) (by rfl) (by rfl) (by rfl) (fun w' n M s => s.celld hW_) 3 (fun w105 st_ => ?_) 11 false false false false false false false false false false false rfl wm0_ (by rw [maplit41.Mb_none]; exact ST0_); rw [maplit41.M_eq] at st_; have hHeld := st_.celld hW_; refine pure_ (i := 23) (N := some 107) (v := ?_) (a' := ?_) #[true, true, true, true, true, true, true, true, true, true, true, true, true, true, true, true, true, true, true, true, true, true, true, true, true, true, true, true, false, false] rfl rfl (by kernel_rfl) (fun _ _ _ h => h) (Or.inl ⟨by rfl, ?_⟩) ?_ ?_; rotate_left; (· intro w'; go_simp; with_reducible rfl); rotate_left; (· simp only [Act.put, List.setIfInBounds_toArray, List.set_cons_zero, List.set_cons_succ, i64_w, i32_w]; rfl); refine one_ (i := 28) (N := some 112) #[true, true, true, true, true, true, true, true, true, true, true, true, true, true, true, true, true, true, true, true, true, true, true, true, true, true, true, true, true, false] rfl rfl (by kernel_rfl) (by decide) (fun K hK => ?_); refine maplit41.look st_ A89.out (by rfl) rfl (.tmp 107) (.tmp 111) rfl (by rfl) (by rfl) ?_; refine hK.out _ _ (hHeld) (fun hHeld => ?_); clear hK K; refine norm_ (a' := ?_) ?_ ?_; rotate_left; (· show Act.put _ (some 112) _ = _; simp only [Act.put, List.setIfInBounds_toArray, List.set_cons_zero, List.set_cons_succ, i64_w, i32_w]; rfl); refine pure_ (i := 29) (N := some 10) (v := ?_) (a' := ?_) #[true, true, true, true, true, true, true, true, true, true, true, true, true, true, true, true, true, true, true, true, true, true, true, true, true, true, true, true, true, true] rfl rfl (by kernel_rfl) (fun _ _ _ h => h) (Or.inl ⟨by rfl, ?_⟩) ?_ ?_; rotate_left; (· intro w'; go_simp; with_reducible rfl); rotate_left; (· simp only [Act.put, List.setIfInBounds_toArray, List.set_cons_zero, List.set_cons_succ, i64_w, i32_w]; rfl); refine done_ (by kernel_rfl) ?_; have hb := st_.2.1; clear hHeld hW_ st_ ST0_; have n0_ := Aside0.mk (blk_below (g := gb183) (o := .cells #[.int .i64 x184000_1, .int .i64 x184001_1, .int .i64 x184002_1, .int .i64 x184003_1, .int .i64 x184004_1] 74 (0, 0)) (by (with_reducible repeat (first | refine blk_drewN ?_ _ | refine blk_drew ?_ | refine blk_alloc ?_ _)); refine blk_far ?_ NB183_184.out _; (with_reducible repeat (first | refine blk_drewN ?_ _ | refine blk_drew ?_ | refine blk_alloc ?_ _)); refine blk_far ?_ NB183_184.out _; (with_reducible repeat (first | refine blk_drewN ?_ _ | refine blk_drew ?_ | refine blk_alloc ?_ _)); refine blk_far ?_ NB183_184.out _; (with_reducible repeat (first | refine blk_drewN ?_ _ | refine blk_drew ?_ | refine blk_alloc ?_ _)); refine blk_far ?_ NB183_184.out _; (with_reducible repeat (first | refine blk_drewN ?_ _ | refine blk_drew ?_ | refine blk_alloc ?_ _)); refine blk_far ?_ NB183_184.out _; (with_reducible repeat (first | refine blk_drewN ?_ _ | refine blk_drew ?_ | refine blk_alloc ?_ _)); exact BK183.out) hb); have n1_ := Aside0.mk (blk_below (g := gb184) (o := .cells #[.int .i64 t187, .int .i64 t188, .int .i64 t189, .int .i64 t190, .int .i64 t191] 74 (0, 0)) (by (with_reducible repeat (first | refine blk_drewN ?_ _ | refine blk_drew ?_ | refine blk_alloc ?_ _)); refine blk_put (cs := #[.int .i64 t187, .int .i64 t188, .int .i64 t189, .int .i64 t190, .int .i64 x185004_1]) ?_ 4 _ rfl; (with_reducible repeat (first | refine blk_drewN ?_ _ | refine blk_drew ?_ | refine blk_alloc ?_ _)); refine blk_put (cs := #[.int .i64 t187, .int .i64 t188, .int .i64 t189, .int .i64 x185003_1, .int .i64 x185004_1]) ?_ 3 _ rfl; (with_reducible repeat (first | refine blk_drewN ?_ _ | refine blk_drew ?_ | refine blk_alloc ?_ _)); refine blk_put (cs := #[.int .i64 t187, .int .i64 t188, .int .i64 x185002_1, .int .i64 x185003_1, .int .i64 x185004_1]) ?_ 2 _ rfl; (with_reducible repeat (first | refine blk_drewN ?_ _ | refine blk_drew ?_ | refine blk_alloc ?_ _)); refine blk_put (cs := #[.int .i64 t187, .int .i64 x185001_1, .int .i64 x185002_1, .int .i64 x185003_1, .int .i64 x185004_1]) ?_ 1 _ rfl; (with_reducible repeat (first | refine blk_drewN ?_ _ | refine blk_drew ?_ | refine blk_alloc ?_ _)); refine blk_put (cs := #[.int .i64 x185000_1, .int .i64 x185001_1, .int .i64 x185002_1, .int .i64 x185003_1, .int .i64 x185004_1]) ?_ 0 _ rfl; (with_reducible repeat (first | refine blk_drewN ?_ _ | refine blk_drew ?_ | refine blk_alloc ?_ _)); exact BK184.out) hb); have n2_ := Aside0.mk (blk_below (g := gb186) (o := .cells #[.int .i64 ((rd_T73 l0 x14_1).f0), .int .i64 ((rd_T73 l0 x14_1).f1), .int .i64 ((rd_T73 l0 x14_1).f2)] 73 (0, 0)) (by (with_reducible repeat (first | refine blk_drewN ?_ _ | refine blk_drew ?_ | refine blk_alloc ?_ _)); refine blk_far ?_ NB186_184.out _; (with_reducible repeat (first | refine blk_drewN ?_ _ | refine blk_drew ?_ | refine blk_alloc ?_ _)); refine blk_far ?_ NB186_184.out _; (with_reducible repeat (first | refine blk_drewN ?_ _ | refine blk_drew ?_ | refine blk_alloc ?_ _)); refine blk_far ?_ NB186_184.out _; (with_reducible repeat (first | refine blk_drewN ?_ _ | refine blk_drew ?_ | refine blk_alloc ?_ _)); refine blk_far ?_ NB186_184.out _; (with_reducible repeat (first | refine blk_drewN ?_ _ | refine blk_drew ?_ | refine blk_alloc ?_ _)); refine blk_far ?_ NB186_184.out _; (with_reducible repeat (first | refine blk_drewN ?_ _ | refine blk_drew ?_ | refine blk_alloc ?_ _)); exact BK186.out) hb); have n3_ := Aside0.mk (below_step (by repeat (first | (with_reducible first | exact HB.out | apply below_alloc | apply pw_below_drewN | apply below_drew1 | refine below_set ?_ GE183.out | refine below_set ?_ GE184.out | refine below_set ?_ GE186.out) | exact HB.out)) hb); clear BK183; clear BK184; clear BK186; clear HB; have BK183 := n0_; have BK184 := n1_; have BK186 := n2_; have HB := n3_; clear n0_ n1_ n2_ n3_; (try clear hb); (try clear hb2); (try clear hk); (try clear hi)))
              repeat (go_quiet (fail); try go_wp2)
              (try simp only [Act.put, List.setIfInBounds_toArray, List.set_cons_zero, List.set_cons_succ])
              go_cut [124] (fun v124 wc => ∃ (kq : Nat) (x124_98 : Bool), v124 = .bool x124_98 ∧ Aside0 (mootref4_Follow.j4 kq ((rd_T73 l0 x14_1).f0) ((rd_T73 l0 x14_1).f2) t192 l0 (l0.length : Int) x14_1 x124_98 t187 t188 t189 t190 t191 = some (r1, r2, r3, r4, r5, r6)) ∧ Aside0 (kq ≤ kj75) ∧ Aside0 (wc.heap[gb183]? = some (.cells #[.int .i64 x184000_1, .int .i64 x184001_1, .int .i64 x184002_1, .int .i64 x184003_1, .int .i64 x184004_1] 74 (0, 0))) ∧ Aside0 (wc.heap[gb184]? = some (.cells #[.int .i64 t187, .int .i64 t188, .int .i64 t189, .int .i64 t190, .int .i64 t191] 74 (0, 0))) ∧ Aside0 (wc.heap[gb186]? = some (.cells #[.int .i64 ((rd_T73 l0 x14_1).f0), .int .i64 ((rd_T73 l0 x14_1).f1), .int .i64 ((rd_T73 l0 x14_1).f2)] 73 (0, 0))) ∧ Aside0 (Below w.heap.size w wc))
              case first =>
               have H := HC99.out
               clear HC99
               by_cases c106 : ((rd_T73 l0 x14_1).f0) = 5
               ·
                rw [if_pos c106] at H
                have c106b0 : (((rd_T73 l0 x14_1).f0) == 5) = true := beq_iff_eq.mpr c106
                have c106b1 : (((rd_T73 l0 x14_1).f0) != 5) = false := bne_eq_false_iff_eq.mpr c106
                clear c106
                (first | rw [c106b0] | (simp only [i64_w, i32_w]; rw [c106b0]) | skip)
                replace H := Option.bind_eq_some_iff.mp H
                obtain ⟨t193, A1070, H⟩ := H
                replace H : (mootref4_Follow.j4 kj75 ((rd_T73 l0 x14_1).f0) ((rd_T73 l0 x14_1).f2) t192 l0 (l0.length : Int) x14_1 (decide (((rd_T73 l0 x14_1).f2) > t193)) t187 t188 t189 t190 t191) = some (r1, r2, r3, r4, r5, r6) := H
                have A107 := Aside0.mk A1070
                clear A1070
                have H' := Aside0.mk H
                clear H
                have hnb108 := NB184_183.out
                have hnc108 := NB183_184.out
                have hnb109 := NB184_186.out
                have hnc109 := NB186_184.out
                have hcz110_0 : w105.cell? ⟨gb184, 0, none⟩ = some (.int .i64 t187) := (blk_cell BK184.out 0).trans rfl
                have hcz110_1 : w105.cell? ⟨gb184, 1, none⟩ = some (.int .i64 t188) := (blk_cell BK184.out 1).trans rfl
                have hcz110_2 : w105.cell? ⟨gb184, 2, none⟩ = some (.int .i64 t189) := (blk_cell BK184.out 2).trans rfl
                have hcz110_3 : w105.cell? ⟨gb184, 3, none⟩ = some (.int .i64 t190) := (blk_cell BK184.out 3).trans rfl
                have hcz110_4 : w105.cell? ⟨gb184, 4, none⟩ = some (.int .i64 t191) := (blk_cell BK184.out 4).trans rfl
                have hfz110_0 := blk_frozen BK184.out 0
                have hfz110_1 := blk_frozen BK184.out 1
                have hfz110_2 := blk_frozen BK184.out 2
                have hfz110_3 := blk_frozen BK184.out 3
                have hfz110_4 := blk_frozen BK184.out 4
                go_wp2_with (first | (go_at_call 35; (with_reducible refine (day_Months.calls kj75 t190 48 t193 _ A107.out).mono ?_); rintro e w111 ⟨rfl, hb⟩; have n0_ := Aside0.mk (blk_below (g := gb183) (o := .cells #[.int .i64 x184000_1, .int .i64 x184001_1, .int .i64 x184002_1, .int .i64 x184003_1, .int .i64 x184004_1] 74 (0, 0)) (by (with_reducible repeat (first | refine blk_drewN ?_ _ | refine blk_drew ?_ | refine blk_alloc ?_ _)); exact BK183.out) hb); have n1_ := Aside0.mk (blk_below (g := gb184) (o := .cells #[.int .i64 t187, .int .i64 t188, .int .i64 t189, .int .i64 t190, .int .i64 t191] 74 (0, 0)) (by (with_reducible repeat (first | refine blk_drewN ?_ _ | refine blk_drew ?_ | refine blk_alloc ?_ _)); exact BK184.out) hb); have n2_ := Aside0.mk (blk_below (g := gb186) (o := .cells #[.int .i64 ((rd_T73 l0 x14_1).f0), .int .i64 ((rd_T73 l0 x14_1).f1), .int .i64 ((rd_T73 l0 x14_1).f2)] 73 (0, 0)) (by (with_reducible repeat (first | refine blk_drewN ?_ _ | refine blk_drew ?_ | refine blk_alloc ?_ _)); exact BK186.out) hb); have n3_ := Aside0.mk (below_step (by repeat (first | (with_reducible first | exact HB.out | apply below_alloc | apply pw_below_drewN | apply below_drew1 | refine below_set ?_ GE183.out | refine below_set ?_ GE184.out | refine below_set ?_ GE186.out) | exact HB.out)) hb); clear BK183; clear BK184; clear BK186; clear HB; have BK183 := n0_; have BK184 := n1_; have BK186 := n2_; have HB := n3_; clear n0_ n1_ n2_ n3_; (try clear hb); (try clear hb2); (try clear hk); (try clear hi)))
                repeat (go_quiet (fail); try go_wp2)
                go_meet
                case rel => exact ⟨_, (decide (((rd_T73 l0 x14_1).f2) > t193)), (by first | rfl | (simp; done) | (simp [*]; done)), H', ⟨by have := HK1.out; have := HJ8.out; have := HJ20.out; have := HJ75.out; first | omega | exact Nat.le_refl _⟩, ⟨by (with_reducible repeat (first | refine blk_drewN ?_ _ | refine blk_drew ?_ | refine blk_alloc ?_ _)); exact BK183.out⟩, ⟨by (with_reducible repeat (first | refine blk_drewN ?_ _ | refine blk_drew ?_ | refine blk_alloc ?_ _)); exact BK184.out⟩, ⟨by (with_reducible repeat (first | refine blk_drewN ?_ _ | refine blk_drew ?_ | refine blk_alloc ?_ _)); exact BK186.out⟩, ⟨by repeat (first | (with_reducible first | exact HB.out | apply below_alloc | apply pw_below_drewN | apply below_drew1 | refine below_set ?_ GE183.out | refine below_set ?_ GE184.out | refine below_set ?_ GE186.out) | exact HB.out)⟩⟩
               ·
                rw [if_neg c106] at H
                have c106b0 : (((rd_T73 l0 x14_1).f0) == 5) = false := beq_eq_false_iff_ne.mpr c106
                have c106b1 : (((rd_T73 l0 x14_1).f0) != 5) = true := bne_iff_ne.mpr c106
                (first | rw [c106b0] | (simp only [i64_w, i32_w]; rw [c106b0]) | skip)
                have H' := Aside0.mk H
                clear H
                go_wp2
                repeat (go_quiet (fail); try go_wp2)
                go_meet
                case rel => exact ⟨_, (false), (by first | rfl | (simp; done) | (simp [*]; done)), H', ⟨by have := HK1.out; have := HJ8.out; have := HJ20.out; have := HJ75.out; first | omega | exact Nat.le_refl _⟩, ⟨by (with_reducible repeat (first | refine blk_drewN ?_ _ | refine blk_drew ?_ | refine blk_alloc ?_ _)); exact BK183.out⟩, ⟨by (with_reducible repeat (first | refine blk_drewN ?_ _ | refine blk_drew ?_ | refine blk_alloc ?_ _)); exact BK184.out⟩, ⟨by (with_reducible repeat (first | refine blk_drewN ?_ _ | refine blk_drew ?_ | refine blk_alloc ?_ _)); exact BK186.out⟩, ⟨by repeat (first | (with_reducible first | exact HB.out | apply below_alloc | apply pw_below_drewN | apply below_drew1 | refine below_set ?_ GE183.out | refine below_set ?_ GE184.out | refine below_set ?_ GE186.out) | exact HB.out)⟩⟩
              case rest =>
               clear HC99
               try clear c1
               try clear c2
               try clear p2
               try clear c3
               try clear c4
               try clear c5
               try clear c6
               try clear c7
               try clear c8
               try clear c9
               try clear c10
               try clear c22
               try clear c22b0 c22b1
               try clear c23
               try clear c23b0 c23b1
               try clear c24
               try clear c24b0 c24b1
               try clear c25
               try clear c25b0 c25b1
               try clear c32
               try clear c32b0 c32b1
               try clear c33
               try clear c33b0 c33b1
               try clear c34
               try clear c34b0 c34b1
               try clear c35
               try clear c35b0 c35b1
               try clear c36
               try clear c36b0 c36b1
               try clear c37
               try clear c37b0 c37b1
               try clear c38
               try clear c38b0 c38b1
               try clear c39
               try clear c39b0 c39b1
               try clear c40
               try clear c40b0 c40b1
               try clear c41
               try clear c41b0 c41b1
               try clear c42
               try clear c42b0 c42b1
               try clear c43
               try clear c43b0 c43b1
               try clear c44
               try clear c44b0 c44b1
               try clear c45
               try clear c45b0 c45b1
               try clear c46
               try clear c46b0 c46b1
               try clear c47
               try clear c47b0 c47b1
               try clear c48
               try clear c48b0 c48b1
               try clear c49
               try clear c49b0 c49b1
               try clear c50
               try clear c50b0 c50b1
               try clear c51
               try clear c51b0 c51b1
               try clear c52
               try clear c52b0 c52b1
               try clear c53
               try clear c53b0 c53b1
               try clear c54
               try clear c54b0 c54b1
               try clear c55
               try clear c55b0 c55b1
               try clear c56
               try clear c56b0 c56b1
               try clear c57
               try clear c57b0 c57b1
               try clear c58
               try clear c58b0 c58b1
               try clear c59
               try clear c59b0 c59b1
               try clear c60
               try clear c60b0 c60b1
               try clear c61
               try clear c61b0 c61b1
               try clear c62
               try clear c62b0 c62b1
               try clear c63
               try clear c63b0 c63b1
               try clear c64
               try clear c64b0 c64b1
               try clear c65
               try clear c65b0 c65b1
               try clear c66
               try clear c66b0 c66b1
               try clear c67
               try clear c67b0 c67b1
               try clear c68
               try clear c68b0 c68b1
               try clear c69
               try clear c69b0 c69b1
               try clear c70
               try clear c70b0 c70b1
               try clear c71
               try clear c71b0 c71b1
               try clear c72
               try clear c73
               try clear c74
               try clear c77
               try clear c77b0 c77b1
               try clear c78
               try clear c79
               try clear c81
               try clear c82
               try clear c84
               try clear c85
               try clear c86
               try clear c90
               try clear c90b0 c90b1
               try clear c91
               try clear c92
               try clear c97
               try clear c100
               try clear c101
               try clear c106
               try clear c106b0 c106b1
               try clear c108
               try clear c109
               try clear hcz102_0 hcz102_1 hcz102_2 hcz102_3 hcz102_4
               try clear hcz104_0 hcz104_1 hcz104_2 hcz104_3 hcz104_4
               try clear hcz110_0 hcz110_1 hcz110_2 hcz110_3 hcz110_4
               try clear hcz75_0 hcz75_1 hcz75_2 hcz75_3 hcz75_4
               try clear hcz80_0 hcz80_1 hcz80_2 hcz80_3 hcz80_4
               try clear hcz83_0 hcz83_1 hcz83_2 hcz83_3 hcz83_4
               try clear hcz87_0 hcz87_1 hcz87_2 hcz87_3 hcz87_4
               try clear hcz93_0 hcz93_1 hcz93_2 hcz93_3 hcz93_4
               try clear hcz95_0 hcz95_1 hcz95_2 hcz95_3 hcz95_4
               try clear hcz98_0 hcz98_1 hcz98_2 hcz98_3 hcz98_4
               try clear hfz102_0 hfz102_1 hfz102_2 hfz102_3 hfz102_4
               try clear hfz104_0 hfz104_1 hfz104_2 hfz104_3 hfz104_4
               try clear hfz110_0 hfz110_1 hfz110_2 hfz110_3 hfz110_4
               try clear hfz75_0 hfz75_1 hfz75_2 hfz75_3 hfz75_4
               try clear hfz80_0 hfz80_1 hfz80_2 hfz80_3 hfz80_4
               try clear hfz83_0 hfz83_1 hfz83_2 hfz83_3 hfz83_4
               try clear hfz87_0 hfz87_1 hfz87_2 hfz87_3 hfz87_4
               try clear hfz93_0 hfz93_1 hfz93_2 hfz93_3 hfz93_4
               try clear hfz95_0 hfz95_1 hfz95_2 hfz95_3 hfz95_4
               try clear hfz98_0 hfz98_1 hfz98_2 hfz98_3 hfz98_4
               try clear p2
               obtain ⟨kq, x124_98, rfl, HA, HJ98, BK183, BK184, BK186, HB⟩ := hcut
               cases kq with
               | zero => exact absurd HA.out (by simp [mootref4_Follow.j4])
               | succ kj98 =>
                have H := HA.out
                clear HA
                simp only [mootref4_Follow.j4] at H
                by_cases c112 : x124_98 = true
                ·
                 subst c112
                 have H1 : (some (0, 0, 0, 0, 0, 18)) = some (r1, r2, r3, r4, r5, r6) := by rw [if_pos rfl] at H; exact H
                 clear H
                 have H := H1
                 clear H1
                 simp only [Option.some.injEq, Prod.mk.injEq] at H
                 obtain ⟨rfl, rfl, rfl, rfl, rfl, rfl⟩ := H
                 have hnb113 := NB183_184.out
                 have hnc113 := NB184_183.out
                 have hnb114 := NB183_186.out
                 have hnc114 := NB186_183.out
                 have hcz115_0 : wc.cell? ⟨gb183, 0, none⟩ = some (.int .i64 x184000_1) := (blk_cell BK183.out 0).trans rfl
                 have hcz115_1 : wc.cell? ⟨gb183, 1, none⟩ = some (.int .i64 x184001_1) := (blk_cell BK183.out 1).trans rfl
                 have hcz115_2 : wc.cell? ⟨gb183, 2, none⟩ = some (.int .i64 x184002_1) := (blk_cell BK183.out 2).trans rfl
                 have hcz115_3 : wc.cell? ⟨gb183, 3, none⟩ = some (.int .i64 x184003_1) := (blk_cell BK183.out 3).trans rfl
                 have hcz115_4 : wc.cell? ⟨gb183, 4, none⟩ = some (.int .i64 x184004_1) := (blk_cell BK183.out 4).trans rfl
                 have hfz115_0 := blk_frozen BK183.out 0
                 have hfz115_1 := blk_frozen BK183.out 1
                 have hfz115_2 := blk_frozen BK183.out 2
                 have hfz115_3 := blk_frozen BK183.out 3
                 have hfz115_4 := blk_frozen BK183.out 4
                 go_wp2
                 repeat (go_quiet (fail); try go_wp2)
                 refine bodyPost_ret (results_ct rfl _ _ gb183 74 #[.int .i64 0, .int .i64 0, .int .i64 0, .int .i64 0, .int .i64 0] (0, 0) _ rfl (by (with_reducible repeat (first | refine blk_drewN ?_ _ | refine blk_drew ?_ | refine blk_alloc ?_ _)); refine blk_put (cs := #[.int .i64 0, .int .i64 0, .int .i64 0, .int .i64 0, .int .i64 x184004_1]) ?_ 4 _ rfl; (with_reducible repeat (first | refine blk_drewN ?_ _ | refine blk_drew ?_ | refine blk_alloc ?_ _)); refine blk_put (cs := #[.int .i64 0, .int .i64 0, .int .i64 0, .int .i64 x184003_1, .int .i64 x184004_1]) ?_ 3 _ rfl; (with_reducible repeat (first | refine blk_drewN ?_ _ | refine blk_drew ?_ | refine blk_alloc ?_ _)); refine blk_put (cs := #[.int .i64 0, .int .i64 0, .int .i64 x184002_1, .int .i64 x184003_1, .int .i64 x184004_1]) ?_ 2 _ rfl; (with_reducible repeat (first | refine blk_drewN ?_ _ | refine blk_drew ?_ | refine blk_alloc ?_ _)); refine blk_put (cs := #[.int .i64 0, .int .i64 x184001_1, .int .i64 x184002_1, .int .i64 x184003_1, .int .i64 x184004_1]) ?_ 1 _ rfl; (with_reducible repeat (first | refine blk_drewN ?_ _ | refine blk_drew ?_ | refine blk_alloc ?_ _)); refine blk_put (cs := #[.int .i64 x184000_1, .int .i64 x184001_1, .int .i64 x184002_1, .int .i64 x184003_1, .int .i64 x184004_1]) ?_ 0 _ rfl; (with_reducible repeat (first | refine blk_drewN ?_ _ | refine blk_drew ?_ | refine blk_alloc ?_ _)); exact BK183.out) Try.underlying74 rfl (by kernel_rfl)) rfl ?_
                 exact ⟨by first | rfl | (simp [errW_none, errW_some] <;> rfl) | (simp [*, errW_none, errW_some] <;> rfl), by repeat (first | (with_reducible first | exact HB.out | apply below_alloc | apply pw_below_drewN | apply below_drew1 | refine below_set ?_ GE183.out | refine below_set ?_ GE184.out | refine below_set ?_ GE186.out) | exact HB.out)⟩
                ·
                 replace c112 := Bool.eq_false_iff.mpr c112
                 subst c112
                 have H1 : (if ((rd_T73 l0 x14_1).f0) = 1 then (mootref4_Follow.l0 kj98 l0 (l0.length : Int) (wrap64 (x14_1 + 1)) t192 ((rd_T73 l0 x14_1).f2) ((rd_T73 l0 x14_1).f2) (-1) 0) else (if ((rd_T73 l0 x14_1).f0) = 3 then (mootref4_Follow.l0 kj98 l0 (l0.length : Int) (wrap64 (x14_1 + 1)) t192 ((rd_T73 l0 x14_1).f2) t189 ((rd_T73 l0 x14_1).f2) (wrap64 (t191 + 1))) else (if ((rd_T73 l0 x14_1).f0) = 4 then (mootref4_Follow.l0 kj98 l0 (l0.length : Int) (wrap64 (x14_1 + 1)) t192 ((rd_T73 l0 x14_1).f2) ((rd_T73 l0 x14_1).f2) t190 t191) else (if ((rd_T73 l0 x14_1).f0) = 5 then (mootref4_Follow.l0 kj98 l0 (l0.length : Int) (wrap64 (x14_1 + 1)) t192 ((rd_T73 l0 x14_1).f2) ((rd_T73 l0 x14_1).f2) t190 t191) else (mootref4_Follow.l0 kj98 l0 (l0.length : Int) (wrap64 (x14_1 + 1)) t192 ((rd_T73 l0 x14_1).f2) t189 t190 t191))))) = some (r1, r2, r3, r4, r5, r6) := by rw [if_neg (show ¬ (false = true) by decide)] at H; exact H
                 clear H
                 have H := H1
                 clear H1
                 by_cases c116 : ((rd_T73 l0 x14_1).f0) = 1
                 ·
                  rw [if_pos c116] at H
                  have c116b0 : (((rd_T73 l0 x14_1).f0) == 1) = true := beq_iff_eq.mpr c116
                  have c116b1 : (((rd_T73 l0 x14_1).f0) != 1) = false := bne_eq_false_iff_eq.mpr c116
                  clear c116
                  have H' := Aside0.mk H
                  clear H
                  have hnb117 := NB184_183.out
                  have hnc117 := NB183_184.out
                  have hnb118 := NB184_186.out
                  have hnc118 := NB186_184.out
                  have hcz119_0 : wc.cell? ⟨gb184, 0, none⟩ = some (.int .i64 t187) := (blk_cell BK184.out 0).trans rfl
                  have hcz119_1 : wc.cell? ⟨gb184, 1, none⟩ = some (.int .i64 t188) := (blk_cell BK184.out 1).trans rfl
                  have hcz119_2 : wc.cell? ⟨gb184, 2, none⟩ = some (.int .i64 t189) := (blk_cell BK184.out 2).trans rfl
                  have hcz119_3 : wc.cell? ⟨gb184, 3, none⟩ = some (.int .i64 t190) := (blk_cell BK184.out 3).trans rfl
                  have hcz119_4 : wc.cell? ⟨gb184, 4, none⟩ = some (.int .i64 t191) := (blk_cell BK184.out 4).trans rfl
                  have hfz119_0 := blk_frozen BK184.out 0
                  have hfz119_1 := blk_frozen BK184.out 1
                  have hfz119_2 := blk_frozen BK184.out 2
                  have hfz119_3 := blk_frozen BK184.out 3
                  have hfz119_4 := blk_frozen BK184.out 4
                  go_wp2
                  repeat (go_quiet (fail); try go_wp2)
                  go_roundg kj98
                  case measure => have := HK1.out; have := HJ8.out; have := HJ20.out; have := HJ75.out; have := HJ98.out; omega
                  case rel => exact ⟨(wrap64 (x14_1 + 1)), (x184000_1), (x184001_1), (x184002_1), (x184003_1), (x184004_1), (t192), (((rd_T73 l0 x14_1).f2)), (((rd_T73 l0 x14_1).f2)), ((-1)), (0), (by first | rfl | (simp; done) | (simp [*]; done)), H', ⟨by have := HK1.out; have := HJ8.out; have := HJ20.out; have := HJ75.out; have := HJ98.out; omega⟩, ⟨by (with_reducible repeat (first | refine blk_drewN ?_ _ | refine blk_drew ?_ | refine blk_alloc ?_ _)); refine blk_far ?_ NB183_184.out _; (with_reducible repeat (first | refine blk_drewN ?_ _ | refine blk_drew ?_ | refine blk_alloc ?_ _)); refine blk_far ?_ NB183_184.out _; (with_reducible repeat (first | refine blk_drewN ?_ _ | refine blk_drew ?_ | refine blk_alloc ?_ _)); refine blk_far ?_ NB183_184.out _; (with_reducible repeat (first | refine blk_drewN ?_ _ | refine blk_drew ?_ | refine blk_alloc ?_ _)); refine blk_far ?_ NB183_184.out _; (with_reducible repeat (first | refine blk_drewN ?_ _ | refine blk_drew ?_ | refine blk_alloc ?_ _)); refine blk_far ?_ NB183_184.out _; (with_reducible repeat (first | refine blk_drewN ?_ _ | refine blk_drew ?_ | refine blk_alloc ?_ _)); refine blk_far ?_ NB183_184.out _; (with_reducible repeat (first | refine blk_drewN ?_ _ | refine blk_drew ?_ | refine blk_alloc ?_ _)); refine blk_far ?_ NB183_184.out _; (with_reducible repeat (first | refine blk_drewN ?_ _ | refine blk_drew ?_ | refine blk_alloc ?_ _)); exact BK183.out⟩, ⟨by (with_reducible repeat (first | refine blk_drewN ?_ _ | refine blk_drew ?_ | refine blk_alloc ?_ _)); refine blk_put (cs := #[.int .i64 t192, .int .i64 0, .int .i64 ((rd_T73 l0 x14_1).f2), .int .i64 (-1), .int .i64 0]) ?_ 1 _ rfl; (with_reducible repeat (first | refine blk_drewN ?_ _ | refine blk_drew ?_ | refine blk_alloc ?_ _)); refine blk_put (cs := #[.int .i64 0, .int .i64 0, .int .i64 ((rd_T73 l0 x14_1).f2), .int .i64 (-1), .int .i64 0]) ?_ 0 _ rfl; (with_reducible repeat (first | refine blk_drewN ?_ _ | refine blk_drew ?_ | refine blk_alloc ?_ _)); refine blk_put (cs := #[.int .i64 0, .int .i64 0, .int .i64 ((rd_T73 l0 x14_1).f2), .int .i64 (-1), .int .i64 t191]) ?_ 4 _ rfl; (with_reducible repeat (first | refine blk_drewN ?_ _ | refine blk_drew ?_ | refine blk_alloc ?_ _)); refine blk_put (cs := #[.int .i64 0, .int .i64 0, .int .i64 ((rd_T73 l0 x14_1).f2), .int .i64 t190, .int .i64 t191]) ?_ 3 _ rfl; (with_reducible repeat (first | refine blk_drewN ?_ _ | refine blk_drew ?_ | refine blk_alloc ?_ _)); refine blk_put (cs := #[.int .i64 0, .int .i64 0, .int .i64 t189, .int .i64 t190, .int .i64 t191]) ?_ 2 _ rfl; (with_reducible repeat (first | refine blk_drewN ?_ _ | refine blk_drew ?_ | refine blk_alloc ?_ _)); refine blk_put (cs := #[.int .i64 0, .int .i64 t188, .int .i64 t189, .int .i64 t190, .int .i64 t191]) ?_ 1 _ rfl; (with_reducible repeat (first | refine blk_drewN ?_ _ | refine blk_drew ?_ | refine blk_alloc ?_ _)); refine blk_put (cs := #[.int .i64 t187, .int .i64 t188, .int .i64 t189, .int .i64 t190, .int .i64 t191]) ?_ 0 _ rfl; (with_reducible repeat (first | refine blk_drewN ?_ _ | refine blk_drew ?_ | refine blk_alloc ?_ _)); exact BK184.out⟩, ⟨by repeat (first | (with_reducible first | exact HB.out | apply below_alloc | apply pw_below_drewN | apply below_drew1 | refine below_set ?_ GE183.out | refine below_set ?_ GE184.out | refine below_set ?_ GE186.out) | exact HB.out)⟩⟩
                 ·
                  rw [if_neg c116] at H
                  have c116b0 : (((rd_T73 l0 x14_1).f0) == 1) = false := beq_eq_false_iff_ne.mpr c116
                  have c116b1 : (((rd_T73 l0 x14_1).f0) != 1) = true := bne_iff_ne.mpr c116
                  by_cases c120 : ((rd_T73 l0 x14_1).f0) = 3
                  ·
                   rw [if_pos c120] at H
                   have c120b0 : (((rd_T73 l0 x14_1).f0) == 3) = true := beq_iff_eq.mpr c120
                   have c120b1 : (((rd_T73 l0 x14_1).f0) != 3) = false := bne_eq_false_iff_eq.mpr c120
                   clear c120
                   have H' := Aside0.mk H
                   clear H
                   have hnb121 := NB184_183.out
                   have hnc121 := NB183_184.out
                   have hnb122 := NB184_186.out
                   have hnc122 := NB186_184.out
                   have hcz123_0 : wc.cell? ⟨gb184, 0, none⟩ = some (.int .i64 t187) := (blk_cell BK184.out 0).trans rfl
                   have hcz123_1 : wc.cell? ⟨gb184, 1, none⟩ = some (.int .i64 t188) := (blk_cell BK184.out 1).trans rfl
                   have hcz123_2 : wc.cell? ⟨gb184, 2, none⟩ = some (.int .i64 t189) := (blk_cell BK184.out 2).trans rfl
                   have hcz123_3 : wc.cell? ⟨gb184, 3, none⟩ = some (.int .i64 t190) := (blk_cell BK184.out 3).trans rfl
                   have hcz123_4 : wc.cell? ⟨gb184, 4, none⟩ = some (.int .i64 t191) := (blk_cell BK184.out 4).trans rfl
                   have hfz123_0 := blk_frozen BK184.out 0
                   have hfz123_1 := blk_frozen BK184.out 1
                   have hfz123_2 := blk_frozen BK184.out 2
                   have hfz123_3 := blk_frozen BK184.out 3
                   have hfz123_4 := blk_frozen BK184.out 4
                   go_wp2
                   repeat (go_quiet (fail); try go_wp2)
                   go_roundg kj98
                   case measure => have := HK1.out; have := HJ8.out; have := HJ20.out; have := HJ75.out; have := HJ98.out; omega
                   case rel => exact ⟨(wrap64 (x14_1 + 1)), (x184000_1), (x184001_1), (x184002_1), (x184003_1), (x184004_1), (t192), (((rd_T73 l0 x14_1).f2)), (t189), (((rd_T73 l0 x14_1).f2)), (wrap64 (t191 + 1)), (by first | rfl | (simp; done) | (simp [*]; done)), H', ⟨by have := HK1.out; have := HJ8.out; have := HJ20.out; have := HJ75.out; have := HJ98.out; omega⟩, ⟨by (with_reducible repeat (first | refine blk_drewN ?_ _ | refine blk_drew ?_ | refine blk_alloc ?_ _)); refine blk_far ?_ NB183_184.out _; (with_reducible repeat (first | refine blk_drewN ?_ _ | refine blk_drew ?_ | refine blk_alloc ?_ _)); refine blk_far ?_ NB183_184.out _; (with_reducible repeat (first | refine blk_drewN ?_ _ | refine blk_drew ?_ | refine blk_alloc ?_ _)); refine blk_far ?_ NB183_184.out _; (with_reducible repeat (first | refine blk_drewN ?_ _ | refine blk_drew ?_ | refine blk_alloc ?_ _)); refine blk_far ?_ NB183_184.out _; (with_reducible repeat (first | refine blk_drewN ?_ _ | refine blk_drew ?_ | refine blk_alloc ?_ _)); exact BK183.out⟩, ⟨by (with_reducible repeat (first | refine blk_drewN ?_ _ | refine blk_drew ?_ | refine blk_alloc ?_ _)); refine blk_put (cs := #[.int .i64 t192, .int .i64 t188, .int .i64 t189, .int .i64 ((rd_T73 l0 x14_1).f2), .int .i64 (wrap64 (t191 + 1))]) ?_ 1 _ rfl; (with_reducible repeat (first | refine blk_drewN ?_ _ | refine blk_drew ?_ | refine blk_alloc ?_ _)); refine blk_put (cs := #[.int .i64 t187, .int .i64 t188, .int .i64 t189, .int .i64 ((rd_T73 l0 x14_1).f2), .int .i64 (wrap64 (t191 + 1))]) ?_ 0 _ rfl; (with_reducible repeat (first | refine blk_drewN ?_ _ | refine blk_drew ?_ | refine blk_alloc ?_ _)); refine blk_put (cs := #[.int .i64 t187, .int .i64 t188, .int .i64 t189, .int .i64 ((rd_T73 l0 x14_1).f2), .int .i64 t191]) ?_ 4 _ rfl; (with_reducible repeat (first | refine blk_drewN ?_ _ | refine blk_drew ?_ | refine blk_alloc ?_ _)); refine blk_put (cs := #[.int .i64 t187, .int .i64 t188, .int .i64 t189, .int .i64 t190, .int .i64 t191]) ?_ 3 _ rfl; (with_reducible repeat (first | refine blk_drewN ?_ _ | refine blk_drew ?_ | refine blk_alloc ?_ _)); exact BK184.out⟩, ⟨by repeat (first | (with_reducible first | exact HB.out | apply below_alloc | apply pw_below_drewN | apply below_drew1 | refine below_set ?_ GE183.out | refine below_set ?_ GE184.out | refine below_set ?_ GE186.out) | exact HB.out)⟩⟩
                  ·
                   rw [if_neg c120] at H
                   have c120b0 : (((rd_T73 l0 x14_1).f0) == 3) = false := beq_eq_false_iff_ne.mpr c120
                   have c120b1 : (((rd_T73 l0 x14_1).f0) != 3) = true := bne_iff_ne.mpr c120
                   by_cases c124 : ((rd_T73 l0 x14_1).f0) = 4
                   ·
                    rw [if_pos c124] at H
                    have c124b0 : (((rd_T73 l0 x14_1).f0) == 4) = true := beq_iff_eq.mpr c124
                    have c124b1 : (((rd_T73 l0 x14_1).f0) != 4) = false := bne_eq_false_iff_eq.mpr c124
                    clear c124
                    have H' := Aside0.mk H
                    clear H
                    have hnb125 := NB184_183.out
                    have hnc125 := NB183_184.out
                    have hnb126 := NB184_186.out
                    have hnc126 := NB186_184.out
                    have hcz127_0 : wc.cell? ⟨gb184, 0, none⟩ = some (.int .i64 t187) := (blk_cell BK184.out 0).trans rfl
                    have hcz127_1 : wc.cell? ⟨gb184, 1, none⟩ = some (.int .i64 t188) := (blk_cell BK184.out 1).trans rfl
                    have hcz127_2 : wc.cell? ⟨gb184, 2, none⟩ = some (.int .i64 t189) := (blk_cell BK184.out 2).trans rfl
                    have hcz127_3 : wc.cell? ⟨gb184, 3, none⟩ = some (.int .i64 t190) := (blk_cell BK184.out 3).trans rfl
                    have hcz127_4 : wc.cell? ⟨gb184, 4, none⟩ = some (.int .i64 t191) := (blk_cell BK184.out 4).trans rfl
                    have hfz127_0 := blk_frozen BK184.out 0
                    have hfz127_1 := blk_frozen BK184.out 1
                    have hfz127_2 := blk_frozen BK184.out 2
                    have hfz127_3 := blk_frozen BK184.out 3
                    have hfz127_4 := blk_frozen BK184.out 4
                    go_wp2
                    repeat (go_quiet (fail); try go_wp2)
                    go_roundg kj98
                    case measure => have := HK1.out; have := HJ8.out; have := HJ20.out; have := HJ75.out; have := HJ98.out; omega
                    case rel => exact ⟨(wrap64 (x14_1 + 1)), (x184000_1), (x184001_1), (x184002_1), (x184003_1), (x184004_1), (t192), (((rd_T73 l0 x14_1).f2)), (((rd_T73 l0 x14_1).f2)), (t190), (t191), (by first | rfl | (simp; done) | (simp [*]; done)), H', ⟨by have := HK1.out; have := HJ8.out; have := HJ20.out; have := HJ75.out; have := HJ98.out; omega⟩, ⟨by (with_reducible repeat (first | refine blk_drewN ?_ _ | refine blk_drew ?_ | refine blk_alloc ?_ _)); refine blk_far ?_ NB183_184.out _; (with_reducible repeat (first | refine blk_drewN ?_ _ | refine blk_drew ?_ | refine blk_alloc ?_ _)); refine blk_far ?_ NB183_184.out _; (with_reducible repeat (first | refine blk_drewN ?_ _ | refine blk_drew ?_ | refine blk_alloc ?_ _)); refine blk_far ?_ NB183_184.out _; (with_reducible repeat (first | refine blk_drewN ?_ _ | refine blk_drew ?_ | refine blk_alloc ?_ _)); exact BK183.out⟩, ⟨by (with_reducible repeat (first | refine blk_drewN ?_ _ | refine blk_drew ?_ | refine blk_alloc ?_ _)); refine blk_put (cs := #[.int .i64 t192, .int .i64 t188, .int .i64 ((rd_T73 l0 x14_1).f2), .int .i64 t190, .int .i64 t191]) ?_ 1 _ rfl; (with_reducible repeat (first | refine blk_drewN ?_ _ | refine blk_drew ?_ | refine blk_alloc ?_ _)); refine blk_put (cs := #[.int .i64 t187, .int .i64 t188, .int .i64 ((rd_T73 l0 x14_1).f2), .int .i64 t190, .int .i64 t191]) ?_ 0 _ rfl; (with_reducible repeat (first | refine blk_drewN ?_ _ | refine blk_drew ?_ | refine blk_alloc ?_ _)); refine blk_put (cs := #[.int .i64 t187, .int .i64 t188, .int .i64 t189, .int .i64 t190, .int .i64 t191]) ?_ 2 _ rfl; (with_reducible repeat (first | refine blk_drewN ?_ _ | refine blk_drew ?_ | refine blk_alloc ?_ _)); exact BK184.out⟩, ⟨by repeat (first | (with_reducible first | exact HB.out | apply below_alloc | apply pw_below_drewN | apply below_drew1 | refine below_set ?_ GE183.out | refine below_set ?_ GE184.out | refine below_set ?_ GE186.out) | exact HB.out)⟩⟩
                   ·
                    rw [if_neg c124] at H
                    have c124b0 : (((rd_T73 l0 x14_1).f0) == 4) = false := beq_eq_false_iff_ne.mpr c124
                    have c124b1 : (((rd_T73 l0 x14_1).f0) != 4) = true := bne_iff_ne.mpr c124
                    by_cases c128 : ((rd_T73 l0 x14_1).f0) = 5
                    ·
                     rw [if_pos c128] at H
                     have c128b0 : (((rd_T73 l0 x14_1).f0) == 5) = true := beq_iff_eq.mpr c128
                     have c128b1 : (((rd_T73 l0 x14_1).f0) != 5) = false := bne_eq_false_iff_eq.mpr c128
                     clear c128
                     have H' := Aside0.mk H
                     clear H
                     have hnb129 := NB184_183.out
                     have hnc129 := NB183_184.out
                     have hnb130 := NB184_186.out
                     have hnc130 := NB186_184.out
                     have hcz131_0 : wc.cell? ⟨gb184, 0, none⟩ = some (.int .i64 t187) := (blk_cell BK184.out 0).trans rfl
                     have hcz131_1 : wc.cell? ⟨gb184, 1, none⟩ = some (.int .i64 t188) := (blk_cell BK184.out 1).trans rfl
                     have hcz131_2 : wc.cell? ⟨gb184, 2, none⟩ = some (.int .i64 t189) := (blk_cell BK184.out 2).trans rfl
                     have hcz131_3 : wc.cell? ⟨gb184, 3, none⟩ = some (.int .i64 t190) := (blk_cell BK184.out 3).trans rfl
                     have hcz131_4 : wc.cell? ⟨gb184, 4, none⟩ = some (.int .i64 t191) := (blk_cell BK184.out 4).trans rfl
                     have hfz131_0 := blk_frozen BK184.out 0
                     have hfz131_1 := blk_frozen BK184.out 1
                     have hfz131_2 := blk_frozen BK184.out 2
                     have hfz131_3 := blk_frozen BK184.out 3
                     have hfz131_4 := blk_frozen BK184.out 4
                     go_wp2
                     repeat (go_quiet (fail); try go_wp2)
                     go_roundg kj98
                     case measure => have := HK1.out; have := HJ8.out; have := HJ20.out; have := HJ75.out; have := HJ98.out; omega
                     case rel => exact ⟨(wrap64 (x14_1 + 1)), (x184000_1), (x184001_1), (x184002_1), (x184003_1), (x184004_1), (t192), (((rd_T73 l0 x14_1).f2)), (((rd_T73 l0 x14_1).f2)), (t190), (t191), (by first | rfl | (simp; done) | (simp [*]; done)), H', ⟨by have := HK1.out; have := HJ8.out; have := HJ20.out; have := HJ75.out; have := HJ98.out; omega⟩, ⟨by (with_reducible repeat (first | refine blk_drewN ?_ _ | refine blk_drew ?_ | refine blk_alloc ?_ _)); refine blk_far ?_ NB183_184.out _; (with_reducible repeat (first | refine blk_drewN ?_ _ | refine blk_drew ?_ | refine blk_alloc ?_ _)); refine blk_far ?_ NB183_184.out _; (with_reducible repeat (first | refine blk_drewN ?_ _ | refine blk_drew ?_ | refine blk_alloc ?_ _)); refine blk_far ?_ NB183_184.out _; (with_reducible repeat (first | refine blk_drewN ?_ _ | refine blk_drew ?_ | refine blk_alloc ?_ _)); exact BK183.out⟩, ⟨by (with_reducible repeat (first | refine blk_drewN ?_ _ | refine blk_drew ?_ | refine blk_alloc ?_ _)); refine blk_put (cs := #[.int .i64 t192, .int .i64 t188, .int .i64 ((rd_T73 l0 x14_1).f2), .int .i64 t190, .int .i64 t191]) ?_ 1 _ rfl; (with_reducible repeat (first | refine blk_drewN ?_ _ | refine blk_drew ?_ | refine blk_alloc ?_ _)); refine blk_put (cs := #[.int .i64 t187, .int .i64 t188, .int .i64 ((rd_T73 l0 x14_1).f2), .int .i64 t190, .int .i64 t191]) ?_ 0 _ rfl; (with_reducible repeat (first | refine blk_drewN ?_ _ | refine blk_drew ?_ | refine blk_alloc ?_ _)); refine blk_put (cs := #[.int .i64 t187, .int .i64 t188, .int .i64 t189, .int .i64 t190, .int .i64 t191]) ?_ 2 _ rfl; (with_reducible repeat (first | refine blk_drewN ?_ _ | refine blk_drew ?_ | refine blk_alloc ?_ _)); exact BK184.out⟩, ⟨by repeat (first | (with_reducible first | exact HB.out | apply below_alloc | apply pw_below_drewN | apply below_drew1 | refine below_set ?_ GE183.out | refine below_set ?_ GE184.out | refine below_set ?_ GE186.out) | exact HB.out)⟩⟩
                    ·
                     rw [if_neg c128] at H
                     have c128b0 : (((rd_T73 l0 x14_1).f0) == 5) = false := beq_eq_false_iff_ne.mpr c128
                     have c128b1 : (((rd_T73 l0 x14_1).f0) != 5) = true := bne_iff_ne.mpr c128
                     have H' := Aside0.mk H
                     clear H
                     have hnb132 := NB184_183.out
                     have hnc132 := NB183_184.out
                     have hnb133 := NB184_186.out
                     have hnc133 := NB186_184.out
                     have hcz134_0 : wc.cell? ⟨gb184, 0, none⟩ = some (.int .i64 t187) := (blk_cell BK184.out 0).trans rfl
                     have hcz134_1 : wc.cell? ⟨gb184, 1, none⟩ = some (.int .i64 t188) := (blk_cell BK184.out 1).trans rfl
                     have hcz134_2 : wc.cell? ⟨gb184, 2, none⟩ = some (.int .i64 t189) := (blk_cell BK184.out 2).trans rfl
                     have hcz134_3 : wc.cell? ⟨gb184, 3, none⟩ = some (.int .i64 t190) := (blk_cell BK184.out 3).trans rfl
                     have hcz134_4 : wc.cell? ⟨gb184, 4, none⟩ = some (.int .i64 t191) := (blk_cell BK184.out 4).trans rfl
                     have hfz134_0 := blk_frozen BK184.out 0
                     have hfz134_1 := blk_frozen BK184.out 1
                     have hfz134_2 := blk_frozen BK184.out 2
                     have hfz134_3 := blk_frozen BK184.out 3
                     have hfz134_4 := blk_frozen BK184.out 4
                     go_wp2
                     repeat (go_quiet (fail); try go_wp2)
                     go_roundg kj98
                     case measure => have := HK1.out; have := HJ8.out; have := HJ20.out; have := HJ75.out; have := HJ98.out; omega
                     case rel => exact ⟨(wrap64 (x14_1 + 1)), (x184000_1), (x184001_1), (x184002_1), (x184003_1), (x184004_1), (t192), (((rd_T73 l0 x14_1).f2)), (t189), (t190), (t191), (by first | rfl | (simp; done) | (simp [*]; done)), H', ⟨by have := HK1.out; have := HJ8.out; have := HJ20.out; have := HJ75.out; have := HJ98.out; omega⟩, ⟨by (with_reducible repeat (first | refine blk_drewN ?_ _ | refine blk_drew ?_ | refine blk_alloc ?_ _)); refine blk_far ?_ NB183_184.out _; (with_reducible repeat (first | refine blk_drewN ?_ _ | refine blk_drew ?_ | refine blk_alloc ?_ _)); refine blk_far ?_ NB183_184.out _; (with_reducible repeat (first | refine blk_drewN ?_ _ | refine blk_drew ?_ | refine blk_alloc ?_ _)); exact BK183.out⟩, ⟨by (with_reducible repeat (first | refine blk_drewN ?_ _ | refine blk_drew ?_ | refine blk_alloc ?_ _)); refine blk_put (cs := #[.int .i64 t192, .int .i64 t188, .int .i64 t189, .int .i64 t190, .int .i64 t191]) ?_ 1 _ rfl; (with_reducible repeat (first | refine blk_drewN ?_ _ | refine blk_drew ?_ | refine blk_alloc ?_ _)); refine blk_put (cs := #[.int .i64 t187, .int .i64 t188, .int .i64 t189, .int .i64 t190, .int .i64 t191]) ?_ 0 _ rfl; (with_reducible repeat (first | refine blk_drewN ?_ _ | refine blk_drew ?_ | refine blk_alloc ?_ _)); exact BK184.out⟩, ⟨by repeat (first | (with_reducible first | exact HB.out | apply below_alloc | apply pw_below_drewN | apply below_drew1 | refine below_set ?_ GE183.out | refine below_set ?_ GE184.out | refine below_set ?_ GE186.out) | exact HB.out)⟩⟩
   ·
    rw [if_neg c6] at H
    have c6b0 : decide (x14_1 < (l0.length : Int)) = false := decide_eq_false c6
    clear c6
    simp only [Option.some.injEq, Prod.mk.injEq] at H
    obtain ⟨rfl, rfl, rfl, rfl, rfl, rfl⟩ := H
    have hnb135 := NB184_183.out
    have hnc135 := NB183_184.out
    have hcz136_0 : wr.cell? ⟨gb184, 0, none⟩ = some (.int .i64 x185000_1) := (blk_cell BK184.out 0).trans rfl
    have hcz136_1 : wr.cell? ⟨gb184, 1, none⟩ = some (.int .i64 x185001_1) := (blk_cell BK184.out 1).trans rfl
    have hcz136_2 : wr.cell? ⟨gb184, 2, none⟩ = some (.int .i64 x185002_1) := (blk_cell BK184.out 2).trans rfl
    have hcz136_3 : wr.cell? ⟨gb184, 3, none⟩ = some (.int .i64 x185003_1) := (blk_cell BK184.out 3).trans rfl
    have hcz136_4 : wr.cell? ⟨gb184, 4, none⟩ = some (.int .i64 x185004_1) := (blk_cell BK184.out 4).trans rfl
    have hfz136_0 := blk_frozen BK184.out 0
    have hfz136_1 := blk_frozen BK184.out 1
    have hfz136_2 := blk_frozen BK184.out 2
    have hfz136_3 := blk_frozen BK184.out 3
    have hfz136_4 := blk_frozen BK184.out 4
    have hcz137_0 : wr.cell? ⟨gb183, 0, none⟩ = some (.int .i64 x184000_1) := (blk_cell BK183.out 0).trans rfl
    have hcz137_1 : wr.cell? ⟨gb183, 1, none⟩ = some (.int .i64 x184001_1) := (blk_cell BK183.out 1).trans rfl
    have hcz137_2 : wr.cell? ⟨gb183, 2, none⟩ = some (.int .i64 x184002_1) := (blk_cell BK183.out 2).trans rfl
    have hcz137_3 : wr.cell? ⟨gb183, 3, none⟩ = some (.int .i64 x184003_1) := (blk_cell BK183.out 3).trans rfl
    have hcz137_4 : wr.cell? ⟨gb183, 4, none⟩ = some (.int .i64 x184004_1) := (blk_cell BK183.out 4).trans rfl
    have hfz137_0 := blk_frozen BK183.out 0
    have hfz137_1 := blk_frozen BK183.out 1
    have hfz137_2 := blk_frozen BK183.out 2
    have hfz137_3 := blk_frozen BK183.out 3
    have hfz137_4 := blk_frozen BK183.out 4
    go_wp2
    repeat (go_quiet (fail); try go_wp2)
    refine bodyPost_ret (results_ct rfl _ _ gb183 74 #[.int .i64 x185000_1, .int .i64 x185001_1, .int .i64 x185002_1, .int .i64 x185003_1, .int .i64 x185004_1] (0, 0) _ rfl (by (with_reducible repeat (first | refine blk_drewN ?_ _ | refine blk_drew ?_ | refine blk_alloc ?_ _)); refine blk_put (cs := #[.int .i64 x185000_1, .int .i64 x185001_1, .int .i64 x185002_1, .int .i64 x185003_1, .int .i64 x184004_1]) ?_ 4 _ rfl; (with_reducible repeat (first | refine blk_drewN ?_ _ | refine blk_drew ?_ | refine blk_alloc ?_ _)); refine blk_put (cs := #[.int .i64 x185000_1, .int .i64 x185001_1, .int .i64 x185002_1, .int .i64 x184003_1, .int .i64 x184004_1]) ?_ 3 _ rfl; (with_reducible repeat (first | refine blk_drewN ?_ _ | refine blk_drew ?_ | refine blk_alloc ?_ _)); refine blk_put (cs := #[.int .i64 x185000_1, .int .i64 x185001_1, .int .i64 x184002_1, .int .i64 x184003_1, .int .i64 x184004_1]) ?_ 2 _ rfl; (with_reducible repeat (first | refine blk_drewN ?_ _ | refine blk_drew ?_ | refine blk_alloc ?_ _)); refine blk_put (cs := #[.int .i64 x185000_1, .int .i64 x184001_1, .int .i64 x184002_1, .int .i64 x184003_1, .int .i64 x184004_1]) ?_ 1 _ rfl; (with_reducible repeat (first | refine blk_drewN ?_ _ | refine blk_drew ?_ | refine blk_alloc ?_ _)); refine blk_put (cs := #[.int .i64 x184000_1, .int .i64 x184001_1, .int .i64 x184002_1, .int .i64 x184003_1, .int .i64 x184004_1]) ?_ 0 _ rfl; (with_reducible repeat (first | refine blk_drewN ?_ _ | refine blk_drew ?_ | refine blk_alloc ?_ _)); exact BK183.out) Try.underlying74 rfl (by kernel_rfl)) rfl ?_
    exact ⟨by first | rfl | (simp [errW_none, errW_some] <;> rfl) | (simp [*, errW_none, errW_some] <;> rfl), by repeat (first | (with_reducible first | exact HB.out | apply below_alloc | apply pw_below_drewN | apply below_drew1 | refine below_set ?_ GE183.out | refine below_set ?_ GE184.out) | exact HB.out)⟩

end Go.Proofs.Ytghnbiknghelpaa.PStp
