-- Printed by this session's wip/myprint.py.
import Derived.Test.YtenhnlclnjnboaaPTelx0
import Derived.Test.YtenhnlclnjnboaaPTelx2
import Derived.Test.YtenhnlclnjnboaaPTelx4
import Derived.Test.YtenhnlclnjnboaaPTelx5
import Derived.Test.YtenhnlclnjnboaaPTelx6
import Derived.Test.YtenhnlclnjnboaaPTelx7
import Derived.Test.YtenhnlclnjnboaaPTelx8
import Derived.Test.YtenhnlclnjnboaaPTelx9
import Derived.Test.YtenhnlclnjnboaaPTelx10
import Derived.Test.YtenhnlclnjnboaaPTelx12
import Derived.Test.YtenhnlclnjnboaaPTelx13
import Derived.Test.YtenhnlclnjnboaaPTelx14
import Derived.Test.YtenhnlclnjnboaaPTelx16
import Derived.Test.YtenhnlclnjnboaaPTelx17
import Derived.Test.YtenhnlclnjnboaaPTelx39
import Derived.Test.YtenhnlclnjnboaaPTelx41
import Derived.Test.YtenhnlclnjnboaaPTelx42
namespace Go.Proofs.Ytenhnlclnjnboaa.PTel
open Go.RowKit Go.Proofs.YtenhnlclnjnboaaW.PrintWords Go.Proofs.YtenhnlclnjnboaaW.PrintLast Go.Proofs.YtenhnlclnjnboaaW.PrintMore
attribute [local go_sem] max2_int min2_int max_two min_two max_three min_three max_four min_four   -- for this text's walks alone
set_option linter.unusedVariables false
set_option linter.unusedSimpArgs false

/-! ### mootlaw4_LedgerTells: function 8 -/
mutual
def mootlaw4_LedgerTells.j0 : Nat → List (S35) → Int → Int → Int → Int → Int → Int → Int → Int → List Int → List (S35) → Int → Bool → Int → Int → Option (Bool)
  | 0, _, _, _, _, _, _, _, _, _, _, _, _, _, _, _ => none
  | k + 1, x0, x2, x5, x13, x16, x17, x18, x19, x20, x21, x23, x24, x111, x283000, x284000 => if x111 = true then (some false) else (if x13 = 0 then (if x5 < 0 then (mootlaw4_LedgerTells.j1 k x0 x2 x5 x16 x17 x18 x19 x20 x21 x23 x24 true x283000 x284000) else (mootlaw4_LedgerTells.j1 k x0 x2 x5 x16 x17 x18 x19 x20 x21 x23 x24 (decide (x5 ≥ (x0.length : Int))) x283000 x284000)) else (if x17 = x13 then (if x20 = x13 then (if x24 = x13 then (some ((wrap64 ((wrap64 ((wrap64 ((wrap64 (x16 + x18)) + x19)) + (x21.length : Int))) + (x23.length : Int))) == 0)) else (some false)) else (some false)) else (some false)))
def mootlaw4_LedgerTells.j4 : Nat → List (S35) → Int → Int → Int → Int → Int → Int → List Int → Int → Int → Option (Bool)
  | 0, _, _, _, _, _, _, _, _, _, _ => none
  | k + 1, x0, x2, x16, x17, x18, x19, x20, x21, x283000, x284000 => mootlaw4_LedgerTells.l0 k x0 x2 x16 x17 x18 x19 x20 x21 0 x283000 x284000
def mootlaw4_LedgerTells.l0 : Nat → List (S35) → Int → Int → Int → Int → Int → Int → List Int → Int → Int → Int → Option (Bool)
  | 0, _, _, _, _, _, _, _, _, _, _, _ => none
  | k + 1, x0, x2, x16, x17, x18, x19, x20, x21, x202, x283000, x284000 => if x202 < 100 then ((mootlaw4_moved_c32.f x0 x202).bind fun bt329 => ((slices_Contains_int_int.f k x21 x202).bind fun t331 => (if ((decide ((wrap64 (bt329.1 + bt329.2)) > 0)) != t331) = true then (some false) else (mootlaw4_LedgerTells.l0 k x0 x2 x16 x17 x18 x19 x20 x21 (wrap64 (x202 + 1)) x283000 x284000)))) else ((slices_IsSorted_int_int.f k x21).bind fun t332 => (if t332 = true then ((slices_Clone_int_int.f x21).bind fun t333 => ((slices_Compact_int_int.f t333).bind fun t336 => (mootlaw4_LedgerTells.j6 k x0 x2 x16 x17 x18 x19 x20 ((t336.length : Int) != (x21.length : Int)) x283000 x284000))) else (mootlaw4_LedgerTells.j6 k x0 x2 x16 x17 x18 x19 x20 true x283000 x284000)))
def mootlaw4_LedgerTells.j6 : Nat → List (S35) → Int → Int → Int → Int → Int → Int → Bool → Int → Int → Option (Bool)
  | 0, _, _, _, _, _, _, _, _, _, _ => none
  | k + 1, x0, x2, x16, x17, x18, x19, x20, x231, x283000, x284000 => if x231 = true then (some false) else (if x2 < 0 then (mootlaw4_LedgerTells.j7 k x0 x2 x16 x17 x18 x19 x20 true x283000 x284000) else (mootlaw4_LedgerTells.j7 k x0 x2 x16 x17 x18 x19 x20 (decide (x2 > 99)) x283000 x284000))
def mootlaw4_LedgerTells.j7 : Nat → List (S35) → Int → Int → Int → Int → Int → Int → Bool → Int → Int → Option (Bool)
  | 0, _, _, _, _, _, _, _, _, _, _ => none
  | k + 1, x0, x2, x16, x17, x18, x19, x20, x237, x283000, x284000 => if x237 = true then (if x17 = 1 then (if x20 = 1 then (some ((wrap64 ((wrap64 (x16 + x18)) + x19)) == 0)) else (some false)) else (some false)) else ((mootlaw4_moved_c36.f x0 x2 x284000).bind fun bt339 => ((mootlaw4_moved_c37.f x0 x2 x283000 x284000).bind fun bt341 => (if x17 = 0 then (if x16 = (wrap64 (bt339.1 - bt339.2)) then (if x20 = 0 then (if x18 = bt341.1 then (some (x19 == bt341.2)) else (some false)) else (some false)) else (some false)) else (some false))))
def mootlaw4_LedgerTells.j1 : Nat → List (S35) → Int → Int → Int → Int → Int → Int → Int → List Int → List (S35) → Int → Bool → Int → Int → Option (Bool)
  | 0, _, _, _, _, _, _, _, _, _, _, _, _, _, _ => none
  | k + 1, x0, x2, x5, x16, x17, x18, x19, x20, x21, x23, x24, x186, x283000, x284000 => if x186 = true then (if x24 = 4 then (mootlaw4_LedgerTells.j2 k x0 x2 x16 x17 x18 x19 x20 x21 (decide ((x23.length : Int) > 0)) x283000 x284000) else (mootlaw4_LedgerTells.j2 k x0 x2 x16 x17 x18 x19 x20 x21 true x283000 x284000)) else ((ledger_Entry_18.f x0).bind fun t315 => (if 0 ≤ x5 then (if x5 < (x0.length : Int) then ((some (([(⟨x284000, (rd_T35 x0 x5).f2, (rd_T35 x0 x5).f1, (rd_T35 x0 x5).f3⟩ : S35)] : List (S35)) : List (S35))).bind fun y321 => (if t315.length + y321.length < 4398046511104 then ((some (t315 ++ y321 : List (S35))).bind fun y324 => ((mootlaw4_ledgerFault.f k y324).bind fun t327 => (if x24 = t327 then (if t327 = 0 then ((ledger_Entry_24.f k x23 y324).bind fun t328 => (if t328 = true then (mootlaw4_LedgerTells.j3 k x0 x2 x16 x17 x18 x19 x20 x21 false x283000 x284000) else (mootlaw4_LedgerTells.j3 k x0 x2 x16 x17 x18 x19 x20 x21 true x283000 x284000))) else (mootlaw4_LedgerTells.j3 k x0 x2 x16 x17 x18 x19 x20 x21 (decide ((x23.length : Int) > 0)) x283000 x284000)) else (mootlaw4_LedgerTells.j3 k x0 x2 x16 x17 x18 x19 x20 x21 true x283000 x284000)))) else (none))) else (none)) else (none)))
def mootlaw4_LedgerTells.j2 : Nat → List (S35) → Int → Int → Int → Int → Int → Int → List Int → Bool → Int → Int → Option (Bool)
  | 0, _, _, _, _, _, _, _, _, _, _, _ => none
  | k + 1, x0, x2, x16, x17, x18, x19, x20, x21, x201, x283000, x284000 => if x201 = true then (some false) else (mootlaw4_LedgerTells.j4 k x0 x2 x16 x17 x18 x19 x20 x21 x283000 x284000)
def mootlaw4_LedgerTells.j3 : Nat → List (S35) → Int → Int → Int → Int → Int → Int → List Int → Bool → Int → Int → Option (Bool)
  | 0, _, _, _, _, _, _, _, _, _, _, _ => none
  | k + 1, x0, x2, x16, x17, x18, x19, x20, x21, x185, x283000, x284000 => if x185 = true then (some false) else (mootlaw4_LedgerTells.j4 k x0 x2 x16 x17 x18 x19 x20 x21 x283000 x284000)
end
def mootlaw4_LedgerTells.f (k : Nat) (l0 : List (S35)) (a1_0 : Int) (a1_1 : Int) (a1_2 : Int) (a1_3 : Int) (a2 : Int) (a3 : Int) (a4 : Int) (a5 : Int) : Option (Bool) := (mootlaw4_posts.f k).bind fun t284 => (if t284 = true then ((mootlaw4_ledgerFault.f k l0).bind fun t285 => ((ledger_Post.f k l0 a1_0 a1_1 a1_2 a1_3).bind fun bt286 => ((ledger_Balance.f k l0 a2 a4).bind fun bt290 => ((ledger_Turnover.f k l0 a2 a3 a4).bind fun bt292 => ((ledger_Accounts.f k l0).bind fun bt295 => ((ledger_Undo.f k l0 a5 a4).bind fun bt299 => ((ledger_Entry_18.f l0).bind fun t303 => ((some (([(⟨a1_0, a1_1, a1_2, a1_3⟩ : S35)] : List (S35)) : List (S35))).bind fun y306 => (if t303.length + y306.length < 4398046511104 then ((some (t303 ++ y306 : List (S35))).bind fun y309 => ((ledger_Check.f k l0).bind fun t312 => (if t312 = t285 then ((mootlaw4_ledgerFault.f k y309).bind fun t313 => (if bt286.2 = t313 then (if bt286.2 = 0 then ((ledger_Entry_24.f k bt286.1 y309).bind fun t314 => (if t314 = true then (mootlaw4_LedgerTells.j0 k l0 a2 a5 t285 bt290.1 bt290.2 bt292.1 bt292.2.1 bt292.2.2 bt295.1 bt299.1 bt299.2 (bt295.2 != t285) a3 a4) else (mootlaw4_LedgerTells.j0 k l0 a2 a5 t285 bt290.1 bt290.2 bt292.1 bt292.2.1 bt292.2.2 bt295.1 bt299.1 bt299.2 true a3 a4))) else (if (bt286.1.length : Int) > 0 then (mootlaw4_LedgerTells.j0 k l0 a2 a5 t285 bt290.1 bt290.2 bt292.1 bt292.2.1 bt292.2.2 bt295.1 bt299.1 bt299.2 true a3 a4) else (mootlaw4_LedgerTells.j0 k l0 a2 a5 t285 bt290.1 bt290.2 bt292.1 bt292.2.1 bt292.2.2 bt295.1 bt299.1 bt299.2 (bt295.2 != t285) a3 a4))) else (mootlaw4_LedgerTells.j0 k l0 a2 a5 t285 bt290.1 bt290.2 bt292.1 bt292.2.1 bt292.2.2 bt295.1 bt299.1 bt299.2 true a3 a4))) else (mootlaw4_LedgerTells.j0 k l0 a2 a5 t285 bt290.1 bt290.2 bt292.1 bt292.2.1 bt292.2.2 bt295.1 bt299.1 bt299.2 true a3 a4)))) else (none)))))))))) else (some false))
theorem mootlaw4_LedgerTells.mono_l : ∀ k, (∀ y0 y1 y2 y3 y4 y5 y6 y7 y8 y9 y10 y11 y12 y13 y14, LeO (mootlaw4_LedgerTells.j0 k y0 y1 y2 y3 y4 y5 y6 y7 y8 y9 y10 y11 y12 y13 y14) (mootlaw4_LedgerTells.j0 (k + 1) y0 y1 y2 y3 y4 y5 y6 y7 y8 y9 y10 y11 y12 y13 y14)) ∧ (∀ y0 y1 y2 y3 y4 y5 y6 y7 y8 y9, LeO (mootlaw4_LedgerTells.j4 k y0 y1 y2 y3 y4 y5 y6 y7 y8 y9) (mootlaw4_LedgerTells.j4 (k + 1) y0 y1 y2 y3 y4 y5 y6 y7 y8 y9)) ∧ (∀ y0 y1 y2 y3 y4 y5 y6 y7 y8 y9 y10, LeO (mootlaw4_LedgerTells.l0 k y0 y1 y2 y3 y4 y5 y6 y7 y8 y9 y10) (mootlaw4_LedgerTells.l0 (k + 1) y0 y1 y2 y3 y4 y5 y6 y7 y8 y9 y10)) ∧ (∀ y0 y1 y2 y3 y4 y5 y6 y7 y8 y9, LeO (mootlaw4_LedgerTells.j6 k y0 y1 y2 y3 y4 y5 y6 y7 y8 y9) (mootlaw4_LedgerTells.j6 (k + 1) y0 y1 y2 y3 y4 y5 y6 y7 y8 y9)) ∧ (∀ y0 y1 y2 y3 y4 y5 y6 y7 y8 y9, LeO (mootlaw4_LedgerTells.j7 k y0 y1 y2 y3 y4 y5 y6 y7 y8 y9) (mootlaw4_LedgerTells.j7 (k + 1) y0 y1 y2 y3 y4 y5 y6 y7 y8 y9)) ∧ (∀ y0 y1 y2 y3 y4 y5 y6 y7 y8 y9 y10 y11 y12 y13, LeO (mootlaw4_LedgerTells.j1 k y0 y1 y2 y3 y4 y5 y6 y7 y8 y9 y10 y11 y12 y13) (mootlaw4_LedgerTells.j1 (k + 1) y0 y1 y2 y3 y4 y5 y6 y7 y8 y9 y10 y11 y12 y13)) ∧ (∀ y0 y1 y2 y3 y4 y5 y6 y7 y8 y9 y10, LeO (mootlaw4_LedgerTells.j2 k y0 y1 y2 y3 y4 y5 y6 y7 y8 y9 y10) (mootlaw4_LedgerTells.j2 (k + 1) y0 y1 y2 y3 y4 y5 y6 y7 y8 y9 y10)) ∧ (∀ y0 y1 y2 y3 y4 y5 y6 y7 y8 y9 y10, LeO (mootlaw4_LedgerTells.j3 k y0 y1 y2 y3 y4 y5 y6 y7 y8 y9 y10) (mootlaw4_LedgerTells.j3 (k + 1) y0 y1 y2 y3 y4 y5 y6 y7 y8 y9 y10))
  | 0 => ⟨fun _ _ _ _ _ _ _ _ _ _ _ _ _ _ _ r h => by simp [mootlaw4_LedgerTells.j0] at h, fun _ _ _ _ _ _ _ _ _ _ r h => by simp [mootlaw4_LedgerTells.j4] at h, fun _ _ _ _ _ _ _ _ _ _ _ r h => by simp [mootlaw4_LedgerTells.l0] at h, fun _ _ _ _ _ _ _ _ _ _ r h => by simp [mootlaw4_LedgerTells.j6] at h, fun _ _ _ _ _ _ _ _ _ _ r h => by simp [mootlaw4_LedgerTells.j7] at h, fun _ _ _ _ _ _ _ _ _ _ _ _ _ _ r h => by simp [mootlaw4_LedgerTells.j1] at h, fun _ _ _ _ _ _ _ _ _ _ _ r h => by simp [mootlaw4_LedgerTells.j2] at h, fun _ _ _ _ _ _ _ _ _ _ _ r h => by simp [mootlaw4_LedgerTells.j3] at h⟩
  | k + 1 => by
    obtain ⟨ih0, ih1, ih2, ih3, ih4, ih5, ih6, ih7⟩ := mootlaw4_LedgerTells.mono_l k
    refine ⟨?_, ?_, ?_, ?_, ?_, ?_, ?_, ?_⟩
    · intro y0 y1 y2 y3 y4 y5 y6 y7 y8 y9 y10 y11 y12 y13 y14
      unfold mootlaw4_LedgerTells.j0
      repeat' first
      | (with_reducible exact ih0 _ _ _ _ _ _ _ _ _ _ _ _ _ _ _)
      | (with_reducible exact ih1 _ _ _ _ _ _ _ _ _ _)
      | (with_reducible exact ih2 _ _ _ _ _ _ _ _ _ _ _)
      | (with_reducible exact ih3 _ _ _ _ _ _ _ _ _ _)
      | (with_reducible exact ih4 _ _ _ _ _ _ _ _ _ _)
      | (with_reducible exact ih5 _ _ _ _ _ _ _ _ _ _ _ _ _ _)
      | (with_reducible exact ih6 _ _ _ _ _ _ _ _ _ _ _)
      | (with_reducible exact ih7 _ _ _ _ _ _ _ _ _ _ _)
      | (with_reducible exact ledger_Accounts.mono _ _)
      | (with_reducible exact ledger_Balance.mono _ _ _ _)
      | (with_reducible exact ledger_Check.mono _ _)
      | (with_reducible exact ledger_Entry_24.mono _ _ _)
      | (with_reducible exact ledger_Post.mono _ _ _ _ _ _)
      | (with_reducible exact ledger_Turnover.mono _ _ _ _ _)
      | (with_reducible exact ledger_Undo.mono _ _ _ _)
      | (with_reducible exact mootlaw4_ledgerFault.mono _ _)
      | (with_reducible exact mootlaw4_posts.mono _)
      | (with_reducible exact slices_Contains_int_int.mono _ _ _)
      | (with_reducible exact slices_IsSorted_int_int.mono _ _)
      | (with_reducible exact LeO.refl _)
      | (with_reducible exact LeO.none _)
      | (with_reducible refine LeO.ite ?_ ?_)
      | (with_reducible refine LeO.bind ?_ (fun _ => ?_))
      | exact ih0 _ _ _ _ _ _ _ _ _ _ _ _ _ _ _
      | exact ih1 _ _ _ _ _ _ _ _ _ _
      | exact ih2 _ _ _ _ _ _ _ _ _ _ _
      | exact ih3 _ _ _ _ _ _ _ _ _ _
      | exact ih4 _ _ _ _ _ _ _ _ _ _
      | exact ih5 _ _ _ _ _ _ _ _ _ _ _ _ _ _
      | exact ih6 _ _ _ _ _ _ _ _ _ _ _
      | exact ih7 _ _ _ _ _ _ _ _ _ _ _
      | exact ledger_Accounts.mono _ _
      | exact ledger_Balance.mono _ _ _ _
      | exact ledger_Check.mono _ _
      | exact ledger_Entry_24.mono _ _ _
      | exact ledger_Post.mono _ _ _ _ _ _
      | exact ledger_Turnover.mono _ _ _ _ _
      | exact ledger_Undo.mono _ _ _ _
      | exact mootlaw4_ledgerFault.mono _ _
      | exact mootlaw4_posts.mono _
      | exact slices_Contains_int_int.mono _ _ _
      | exact slices_IsSorted_int_int.mono _ _
      | exact LeO.none _
      | refine LeO.ite ?_ ?_
      | refine LeO.bind ?_ (fun _ => ?_)
    · intro y0 y1 y2 y3 y4 y5 y6 y7 y8 y9
      unfold mootlaw4_LedgerTells.j4
      repeat' first
      | (with_reducible exact ih0 _ _ _ _ _ _ _ _ _ _ _ _ _ _ _)
      | (with_reducible exact ih1 _ _ _ _ _ _ _ _ _ _)
      | (with_reducible exact ih2 _ _ _ _ _ _ _ _ _ _ _)
      | (with_reducible exact ih3 _ _ _ _ _ _ _ _ _ _)
      | (with_reducible exact ih4 _ _ _ _ _ _ _ _ _ _)
      | (with_reducible exact ih5 _ _ _ _ _ _ _ _ _ _ _ _ _ _)
      | (with_reducible exact ih6 _ _ _ _ _ _ _ _ _ _ _)
      | (with_reducible exact ih7 _ _ _ _ _ _ _ _ _ _ _)
      | (with_reducible exact ledger_Accounts.mono _ _)
      | (with_reducible exact ledger_Balance.mono _ _ _ _)
      | (with_reducible exact ledger_Check.mono _ _)
      | (with_reducible exact ledger_Entry_24.mono _ _ _)
      | (with_reducible exact ledger_Post.mono _ _ _ _ _ _)
      | (with_reducible exact ledger_Turnover.mono _ _ _ _ _)
      | (with_reducible exact ledger_Undo.mono _ _ _ _)
      | (with_reducible exact mootlaw4_ledgerFault.mono _ _)
      | (with_reducible exact mootlaw4_posts.mono _)
      | (with_reducible exact slices_Contains_int_int.mono _ _ _)
      | (with_reducible exact slices_IsSorted_int_int.mono _ _)
      | (with_reducible exact LeO.refl _)
      | (with_reducible exact LeO.none _)
      | (with_reducible refine LeO.ite ?_ ?_)
      | (with_reducible refine LeO.bind ?_ (fun _ => ?_))
      | exact ih0 _ _ _ _ _ _ _ _ _ _ _ _ _ _ _
      | exact ih1 _ _ _ _ _ _ _ _ _ _
      | exact ih2 _ _ _ _ _ _ _ _ _ _ _
      | exact ih3 _ _ _ _ _ _ _ _ _ _
      | exact ih4 _ _ _ _ _ _ _ _ _ _
      | exact ih5 _ _ _ _ _ _ _ _ _ _ _ _ _ _
      | exact ih6 _ _ _ _ _ _ _ _ _ _ _
      | exact ih7 _ _ _ _ _ _ _ _ _ _ _
      | exact ledger_Accounts.mono _ _
      | exact ledger_Balance.mono _ _ _ _
      | exact ledger_Check.mono _ _
      | exact ledger_Entry_24.mono _ _ _
      | exact ledger_Post.mono _ _ _ _ _ _
      | exact ledger_Turnover.mono _ _ _ _ _
      | exact ledger_Undo.mono _ _ _ _
      | exact mootlaw4_ledgerFault.mono _ _
      | exact mootlaw4_posts.mono _
      | exact slices_Contains_int_int.mono _ _ _
      | exact slices_IsSorted_int_int.mono _ _
      | exact LeO.none _
      | refine LeO.ite ?_ ?_
      | refine LeO.bind ?_ (fun _ => ?_)
    · intro y0 y1 y2 y3 y4 y5 y6 y7 y8 y9 y10
      unfold mootlaw4_LedgerTells.l0
      repeat' first
      | (with_reducible exact ih0 _ _ _ _ _ _ _ _ _ _ _ _ _ _ _)
      | (with_reducible exact ih1 _ _ _ _ _ _ _ _ _ _)
      | (with_reducible exact ih2 _ _ _ _ _ _ _ _ _ _ _)
      | (with_reducible exact ih3 _ _ _ _ _ _ _ _ _ _)
      | (with_reducible exact ih4 _ _ _ _ _ _ _ _ _ _)
      | (with_reducible exact ih5 _ _ _ _ _ _ _ _ _ _ _ _ _ _)
      | (with_reducible exact ih6 _ _ _ _ _ _ _ _ _ _ _)
      | (with_reducible exact ih7 _ _ _ _ _ _ _ _ _ _ _)
      | (with_reducible exact ledger_Accounts.mono _ _)
      | (with_reducible exact ledger_Balance.mono _ _ _ _)
      | (with_reducible exact ledger_Check.mono _ _)
      | (with_reducible exact ledger_Entry_24.mono _ _ _)
      | (with_reducible exact ledger_Post.mono _ _ _ _ _ _)
      | (with_reducible exact ledger_Turnover.mono _ _ _ _ _)
      | (with_reducible exact ledger_Undo.mono _ _ _ _)
      | (with_reducible exact mootlaw4_ledgerFault.mono _ _)
      | (with_reducible exact mootlaw4_posts.mono _)
      | (with_reducible exact slices_Contains_int_int.mono _ _ _)
      | (with_reducible exact slices_IsSorted_int_int.mono _ _)
      | (with_reducible exact LeO.refl _)
      | (with_reducible exact LeO.none _)
      | (with_reducible refine LeO.ite ?_ ?_)
      | (with_reducible refine LeO.bind ?_ (fun _ => ?_))
      | exact ih0 _ _ _ _ _ _ _ _ _ _ _ _ _ _ _
      | exact ih1 _ _ _ _ _ _ _ _ _ _
      | exact ih2 _ _ _ _ _ _ _ _ _ _ _
      | exact ih3 _ _ _ _ _ _ _ _ _ _
      | exact ih4 _ _ _ _ _ _ _ _ _ _
      | exact ih5 _ _ _ _ _ _ _ _ _ _ _ _ _ _
      | exact ih6 _ _ _ _ _ _ _ _ _ _ _
      | exact ih7 _ _ _ _ _ _ _ _ _ _ _
      | exact ledger_Accounts.mono _ _
      | exact ledger_Balance.mono _ _ _ _
      | exact ledger_Check.mono _ _
      | exact ledger_Entry_24.mono _ _ _
      | exact ledger_Post.mono _ _ _ _ _ _
      | exact ledger_Turnover.mono _ _ _ _ _
      | exact ledger_Undo.mono _ _ _ _
      | exact mootlaw4_ledgerFault.mono _ _
      | exact mootlaw4_posts.mono _
      | exact slices_Contains_int_int.mono _ _ _
      | exact slices_IsSorted_int_int.mono _ _
      | exact LeO.none _
      | refine LeO.ite ?_ ?_
      | refine LeO.bind ?_ (fun _ => ?_)
    · intro y0 y1 y2 y3 y4 y5 y6 y7 y8 y9
      unfold mootlaw4_LedgerTells.j6
      repeat' first
      | (with_reducible exact ih0 _ _ _ _ _ _ _ _ _ _ _ _ _ _ _)
      | (with_reducible exact ih1 _ _ _ _ _ _ _ _ _ _)
      | (with_reducible exact ih2 _ _ _ _ _ _ _ _ _ _ _)
      | (with_reducible exact ih3 _ _ _ _ _ _ _ _ _ _)
      | (with_reducible exact ih4 _ _ _ _ _ _ _ _ _ _)
      | (with_reducible exact ih5 _ _ _ _ _ _ _ _ _ _ _ _ _ _)
      | (with_reducible exact ih6 _ _ _ _ _ _ _ _ _ _ _)
      | (with_reducible exact ih7 _ _ _ _ _ _ _ _ _ _ _)
      | (with_reducible exact ledger_Accounts.mono _ _)
      | (with_reducible exact ledger_Balance.mono _ _ _ _)
      | (with_reducible exact ledger_Check.mono _ _)
      | (with_reducible exact ledger_Entry_24.mono _ _ _)
      | (with_reducible exact ledger_Post.mono _ _ _ _ _ _)
      | (with_reducible exact ledger_Turnover.mono _ _ _ _ _)
      | (with_reducible exact ledger_Undo.mono _ _ _ _)
      | (with_reducible exact mootlaw4_ledgerFault.mono _ _)
      | (with_reducible exact mootlaw4_posts.mono _)
      | (with_reducible exact slices_Contains_int_int.mono _ _ _)
      | (with_reducible exact slices_IsSorted_int_int.mono _ _)
      | (with_reducible exact LeO.refl _)
      | (with_reducible exact LeO.none _)
      | (with_reducible refine LeO.ite ?_ ?_)
      | (with_reducible refine LeO.bind ?_ (fun _ => ?_))
      | exact ih0 _ _ _ _ _ _ _ _ _ _ _ _ _ _ _
      | exact ih1 _ _ _ _ _ _ _ _ _ _
      | exact ih2 _ _ _ _ _ _ _ _ _ _ _
      | exact ih3 _ _ _ _ _ _ _ _ _ _
      | exact ih4 _ _ _ _ _ _ _ _ _ _
      | exact ih5 _ _ _ _ _ _ _ _ _ _ _ _ _ _
      | exact ih6 _ _ _ _ _ _ _ _ _ _ _
      | exact ih7 _ _ _ _ _ _ _ _ _ _ _
      | exact ledger_Accounts.mono _ _
      | exact ledger_Balance.mono _ _ _ _
      | exact ledger_Check.mono _ _
      | exact ledger_Entry_24.mono _ _ _
      | exact ledger_Post.mono _ _ _ _ _ _
      | exact ledger_Turnover.mono _ _ _ _ _
      | exact ledger_Undo.mono _ _ _ _
      | exact mootlaw4_ledgerFault.mono _ _
      | exact mootlaw4_posts.mono _
      | exact slices_Contains_int_int.mono _ _ _
      | exact slices_IsSorted_int_int.mono _ _
      | exact LeO.none _
      | refine LeO.ite ?_ ?_
      | refine LeO.bind ?_ (fun _ => ?_)
    · intro y0 y1 y2 y3 y4 y5 y6 y7 y8 y9
      unfold mootlaw4_LedgerTells.j7
      repeat' first
      | (with_reducible exact ih0 _ _ _ _ _ _ _ _ _ _ _ _ _ _ _)
      | (with_reducible exact ih1 _ _ _ _ _ _ _ _ _ _)
      | (with_reducible exact ih2 _ _ _ _ _ _ _ _ _ _ _)
      | (with_reducible exact ih3 _ _ _ _ _ _ _ _ _ _)
      | (with_reducible exact ih4 _ _ _ _ _ _ _ _ _ _)
      | (with_reducible exact ih5 _ _ _ _ _ _ _ _ _ _ _ _ _ _)
      | (with_reducible exact ih6 _ _ _ _ _ _ _ _ _ _ _)
      | (with_reducible exact ih7 _ _ _ _ _ _ _ _ _ _ _)
      | (with_reducible exact ledger_Accounts.mono _ _)
      | (with_reducible exact ledger_Balance.mono _ _ _ _)
      | (with_reducible exact ledger_Check.mono _ _)
      | (with_reducible exact ledger_Entry_24.mono _ _ _)
      | (with_reducible exact ledger_Post.mono _ _ _ _ _ _)
      | (with_reducible exact ledger_Turnover.mono _ _ _ _ _)
      | (with_reducible exact ledger_Undo.mono _ _ _ _)
      | (with_reducible exact mootlaw4_ledgerFault.mono _ _)
      | (with_reducible exact mootlaw4_posts.mono _)
      | (with_reducible exact slices_Contains_int_int.mono _ _ _)
      | (with_reducible exact slices_IsSorted_int_int.mono _ _)
      | (with_reducible exact LeO.refl _)
      | (with_reducible exact LeO.none _)
      | (with_reducible refine LeO.ite ?_ ?_)
      | (with_reducible refine LeO.bind ?_ (fun _ => ?_))
      | exact ih0 _ _ _ _ _ _ _ _ _ _ _ _ _ _ _
      | exact ih1 _ _ _ _ _ _ _ _ _ _
      | exact ih2 _ _ _ _ _ _ _ _ _ _ _
      | exact ih3 _ _ _ _ _ _ _ _ _ _
      | exact ih4 _ _ _ _ _ _ _ _ _ _
      | exact ih5 _ _ _ _ _ _ _ _ _ _ _ _ _ _
      | exact ih6 _ _ _ _ _ _ _ _ _ _ _
      | exact ih7 _ _ _ _ _ _ _ _ _ _ _
      | exact ledger_Accounts.mono _ _
      | exact ledger_Balance.mono _ _ _ _
      | exact ledger_Check.mono _ _
      | exact ledger_Entry_24.mono _ _ _
      | exact ledger_Post.mono _ _ _ _ _ _
      | exact ledger_Turnover.mono _ _ _ _ _
      | exact ledger_Undo.mono _ _ _ _
      | exact mootlaw4_ledgerFault.mono _ _
      | exact mootlaw4_posts.mono _
      | exact slices_Contains_int_int.mono _ _ _
      | exact slices_IsSorted_int_int.mono _ _
      | exact LeO.none _
      | refine LeO.ite ?_ ?_
      | refine LeO.bind ?_ (fun _ => ?_)
    · intro y0 y1 y2 y3 y4 y5 y6 y7 y8 y9 y10 y11 y12 y13
      unfold mootlaw4_LedgerTells.j1
      repeat' first
      | (with_reducible exact ih0 _ _ _ _ _ _ _ _ _ _ _ _ _ _ _)
      | (with_reducible exact ih1 _ _ _ _ _ _ _ _ _ _)
      | (with_reducible exact ih2 _ _ _ _ _ _ _ _ _ _ _)
      | (with_reducible exact ih3 _ _ _ _ _ _ _ _ _ _)
      | (with_reducible exact ih4 _ _ _ _ _ _ _ _ _ _)
      | (with_reducible exact ih5 _ _ _ _ _ _ _ _ _ _ _ _ _ _)
      | (with_reducible exact ih6 _ _ _ _ _ _ _ _ _ _ _)
      | (with_reducible exact ih7 _ _ _ _ _ _ _ _ _ _ _)
      | (with_reducible exact ledger_Accounts.mono _ _)
      | (with_reducible exact ledger_Balance.mono _ _ _ _)
      | (with_reducible exact ledger_Check.mono _ _)
      | (with_reducible exact ledger_Entry_24.mono _ _ _)
      | (with_reducible exact ledger_Post.mono _ _ _ _ _ _)
      | (with_reducible exact ledger_Turnover.mono _ _ _ _ _)
      | (with_reducible exact ledger_Undo.mono _ _ _ _)
      | (with_reducible exact mootlaw4_ledgerFault.mono _ _)
      | (with_reducible exact mootlaw4_posts.mono _)
      | (with_reducible exact slices_Contains_int_int.mono _ _ _)
      | (with_reducible exact slices_IsSorted_int_int.mono _ _)
      | (with_reducible exact LeO.refl _)
      | (with_reducible exact LeO.none _)
      | (with_reducible refine LeO.ite ?_ ?_)
      | (with_reducible refine LeO.bind ?_ (fun _ => ?_))
      | exact ih0 _ _ _ _ _ _ _ _ _ _ _ _ _ _ _
      | exact ih1 _ _ _ _ _ _ _ _ _ _
      | exact ih2 _ _ _ _ _ _ _ _ _ _ _
      | exact ih3 _ _ _ _ _ _ _ _ _ _
      | exact ih4 _ _ _ _ _ _ _ _ _ _
      | exact ih5 _ _ _ _ _ _ _ _ _ _ _ _ _ _
      | exact ih6 _ _ _ _ _ _ _ _ _ _ _
      | exact ih7 _ _ _ _ _ _ _ _ _ _ _
      | exact ledger_Accounts.mono _ _
      | exact ledger_Balance.mono _ _ _ _
      | exact ledger_Check.mono _ _
      | exact ledger_Entry_24.mono _ _ _
      | exact ledger_Post.mono _ _ _ _ _ _
      | exact ledger_Turnover.mono _ _ _ _ _
      | exact ledger_Undo.mono _ _ _ _
      | exact mootlaw4_ledgerFault.mono _ _
      | exact mootlaw4_posts.mono _
      | exact slices_Contains_int_int.mono _ _ _
      | exact slices_IsSorted_int_int.mono _ _
      | exact LeO.none _
      | refine LeO.ite ?_ ?_
      | refine LeO.bind ?_ (fun _ => ?_)
    · intro y0 y1 y2 y3 y4 y5 y6 y7 y8 y9 y10
      unfold mootlaw4_LedgerTells.j2
      repeat' first
      | (with_reducible exact ih0 _ _ _ _ _ _ _ _ _ _ _ _ _ _ _)
      | (with_reducible exact ih1 _ _ _ _ _ _ _ _ _ _)
      | (with_reducible exact ih2 _ _ _ _ _ _ _ _ _ _ _)
      | (with_reducible exact ih3 _ _ _ _ _ _ _ _ _ _)
      | (with_reducible exact ih4 _ _ _ _ _ _ _ _ _ _)
      | (with_reducible exact ih5 _ _ _ _ _ _ _ _ _ _ _ _ _ _)
      | (with_reducible exact ih6 _ _ _ _ _ _ _ _ _ _ _)
      | (with_reducible exact ih7 _ _ _ _ _ _ _ _ _ _ _)
      | (with_reducible exact ledger_Accounts.mono _ _)
      | (with_reducible exact ledger_Balance.mono _ _ _ _)
      | (with_reducible exact ledger_Check.mono _ _)
      | (with_reducible exact ledger_Entry_24.mono _ _ _)
      | (with_reducible exact ledger_Post.mono _ _ _ _ _ _)
      | (with_reducible exact ledger_Turnover.mono _ _ _ _ _)
      | (with_reducible exact ledger_Undo.mono _ _ _ _)
      | (with_reducible exact mootlaw4_ledgerFault.mono _ _)
      | (with_reducible exact mootlaw4_posts.mono _)
      | (with_reducible exact slices_Contains_int_int.mono _ _ _)
      | (with_reducible exact slices_IsSorted_int_int.mono _ _)
      | (with_reducible exact LeO.refl _)
      | (with_reducible exact LeO.none _)
      | (with_reducible refine LeO.ite ?_ ?_)
      | (with_reducible refine LeO.bind ?_ (fun _ => ?_))
      | exact ih0 _ _ _ _ _ _ _ _ _ _ _ _ _ _ _
      | exact ih1 _ _ _ _ _ _ _ _ _ _
      | exact ih2 _ _ _ _ _ _ _ _ _ _ _
      | exact ih3 _ _ _ _ _ _ _ _ _ _
      | exact ih4 _ _ _ _ _ _ _ _ _ _
      | exact ih5 _ _ _ _ _ _ _ _ _ _ _ _ _ _
      | exact ih6 _ _ _ _ _ _ _ _ _ _ _
      | exact ih7 _ _ _ _ _ _ _ _ _ _ _
      | exact ledger_Accounts.mono _ _
      | exact ledger_Balance.mono _ _ _ _
      | exact ledger_Check.mono _ _
      | exact ledger_Entry_24.mono _ _ _
      | exact ledger_Post.mono _ _ _ _ _ _
      | exact ledger_Turnover.mono _ _ _ _ _
      | exact ledger_Undo.mono _ _ _ _
      | exact mootlaw4_ledgerFault.mono _ _
      | exact mootlaw4_posts.mono _
      | exact slices_Contains_int_int.mono _ _ _
      | exact slices_IsSorted_int_int.mono _ _
      | exact LeO.none _
      | refine LeO.ite ?_ ?_
      | refine LeO.bind ?_ (fun _ => ?_)
    · intro y0 y1 y2 y3 y4 y5 y6 y7 y8 y9 y10
      unfold mootlaw4_LedgerTells.j3
      repeat' first
      | (with_reducible exact ih0 _ _ _ _ _ _ _ _ _ _ _ _ _ _ _)
      | (with_reducible exact ih1 _ _ _ _ _ _ _ _ _ _)
      | (with_reducible exact ih2 _ _ _ _ _ _ _ _ _ _ _)
      | (with_reducible exact ih3 _ _ _ _ _ _ _ _ _ _)
      | (with_reducible exact ih4 _ _ _ _ _ _ _ _ _ _)
      | (with_reducible exact ih5 _ _ _ _ _ _ _ _ _ _ _ _ _ _)
      | (with_reducible exact ih6 _ _ _ _ _ _ _ _ _ _ _)
      | (with_reducible exact ih7 _ _ _ _ _ _ _ _ _ _ _)
      | (with_reducible exact ledger_Accounts.mono _ _)
      | (with_reducible exact ledger_Balance.mono _ _ _ _)
      | (with_reducible exact ledger_Check.mono _ _)
      | (with_reducible exact ledger_Entry_24.mono _ _ _)
      | (with_reducible exact ledger_Post.mono _ _ _ _ _ _)
      | (with_reducible exact ledger_Turnover.mono _ _ _ _ _)
      | (with_reducible exact ledger_Undo.mono _ _ _ _)
      | (with_reducible exact mootlaw4_ledgerFault.mono _ _)
      | (with_reducible exact mootlaw4_posts.mono _)
      | (with_reducible exact slices_Contains_int_int.mono _ _ _)
      | (with_reducible exact slices_IsSorted_int_int.mono _ _)
      | (with_reducible exact LeO.refl _)
      | (with_reducible exact LeO.none _)
      | (with_reducible refine LeO.ite ?_ ?_)
      | (with_reducible refine LeO.bind ?_ (fun _ => ?_))
      | exact ih0 _ _ _ _ _ _ _ _ _ _ _ _ _ _ _
      | exact ih1 _ _ _ _ _ _ _ _ _ _
      | exact ih2 _ _ _ _ _ _ _ _ _ _ _
      | exact ih3 _ _ _ _ _ _ _ _ _ _
      | exact ih4 _ _ _ _ _ _ _ _ _ _
      | exact ih5 _ _ _ _ _ _ _ _ _ _ _ _ _ _
      | exact ih6 _ _ _ _ _ _ _ _ _ _ _
      | exact ih7 _ _ _ _ _ _ _ _ _ _ _
      | exact ledger_Accounts.mono _ _
      | exact ledger_Balance.mono _ _ _ _
      | exact ledger_Check.mono _ _
      | exact ledger_Entry_24.mono _ _ _
      | exact ledger_Post.mono _ _ _ _ _ _
      | exact ledger_Turnover.mono _ _ _ _ _
      | exact ledger_Undo.mono _ _ _ _
      | exact mootlaw4_ledgerFault.mono _ _
      | exact mootlaw4_posts.mono _
      | exact slices_Contains_int_int.mono _ _ _
      | exact slices_IsSorted_int_int.mono _ _
      | exact LeO.none _
      | refine LeO.ite ?_ ?_
      | refine LeO.bind ?_ (fun _ => ?_)
theorem mootlaw4_LedgerTells.mono : ∀ a0 a1 a2 a3 a4 a5 a6 a7 a8 k, LeO (mootlaw4_LedgerTells.f k a0 a1 a2 a3 a4 a5 a6 a7 a8) (mootlaw4_LedgerTells.f (k + 1) a0 a1 a2 a3 a4 a5 a6 a7 a8) := by
  intro a0 a1 a2 a3 a4 a5 a6 a7 a8 k
  obtain ⟨ih0, ih1, ih2, ih3, ih4, ih5, ih6, ih7⟩ := mootlaw4_LedgerTells.mono_l k
  unfold mootlaw4_LedgerTells.f
  repeat' first
      | (with_reducible exact ih0 _ _ _ _ _ _ _ _ _ _ _ _ _ _ _)
      | (with_reducible exact ih1 _ _ _ _ _ _ _ _ _ _)
      | (with_reducible exact ih2 _ _ _ _ _ _ _ _ _ _ _)
      | (with_reducible exact ih3 _ _ _ _ _ _ _ _ _ _)
      | (with_reducible exact ih4 _ _ _ _ _ _ _ _ _ _)
      | (with_reducible exact ih5 _ _ _ _ _ _ _ _ _ _ _ _ _ _)
      | (with_reducible exact ih6 _ _ _ _ _ _ _ _ _ _ _)
      | (with_reducible exact ih7 _ _ _ _ _ _ _ _ _ _ _)
      | (with_reducible exact ledger_Accounts.mono _ _)
      | (with_reducible exact ledger_Balance.mono _ _ _ _)
      | (with_reducible exact ledger_Check.mono _ _)
      | (with_reducible exact ledger_Entry_24.mono _ _ _)
      | (with_reducible exact ledger_Post.mono _ _ _ _ _ _)
      | (with_reducible exact ledger_Turnover.mono _ _ _ _ _)
      | (with_reducible exact ledger_Undo.mono _ _ _ _)
      | (with_reducible exact mootlaw4_ledgerFault.mono _ _)
      | (with_reducible exact mootlaw4_posts.mono _)
      | (with_reducible exact slices_Contains_int_int.mono _ _ _)
      | (with_reducible exact slices_IsSorted_int_int.mono _ _)
      | (with_reducible exact LeO.refl _)
      | (with_reducible exact LeO.none _)
      | (with_reducible refine LeO.ite ?_ ?_)
      | (with_reducible refine LeO.bind ?_ (fun _ => ?_))
      | exact ih0 _ _ _ _ _ _ _ _ _ _ _ _ _ _ _
      | exact ih1 _ _ _ _ _ _ _ _ _ _
      | exact ih2 _ _ _ _ _ _ _ _ _ _ _
      | exact ih3 _ _ _ _ _ _ _ _ _ _
      | exact ih4 _ _ _ _ _ _ _ _ _ _
      | exact ih5 _ _ _ _ _ _ _ _ _ _ _ _ _ _
      | exact ih6 _ _ _ _ _ _ _ _ _ _ _
      | exact ih7 _ _ _ _ _ _ _ _ _ _ _
      | exact ledger_Accounts.mono _ _
      | exact ledger_Balance.mono _ _ _ _
      | exact ledger_Check.mono _ _
      | exact ledger_Entry_24.mono _ _ _
      | exact ledger_Post.mono _ _ _ _ _ _
      | exact ledger_Turnover.mono _ _ _ _ _
      | exact ledger_Undo.mono _ _ _ _
      | exact mootlaw4_ledgerFault.mono _ _
      | exact mootlaw4_posts.mono _
      | exact slices_Contains_int_int.mono _ _ _
      | exact slices_IsSorted_int_int.mono _ _
      | exact LeO.none _
      | refine LeO.ite ?_ ?_
      | refine LeO.bind ?_ (fun _ => ?_)
end Go.Proofs.Ytenhnlclnjnboaa.PTel
