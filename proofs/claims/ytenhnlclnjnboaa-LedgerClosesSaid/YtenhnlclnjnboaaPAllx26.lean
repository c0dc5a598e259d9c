-- Printed by this session's wip/myprint.py.
import Derived.Test.YtenhnlclnjnboaaPAllx0
import Derived.Test.YtenhnlclnjnboaaPAllx3
import Derived.Test.YtenhnlclnjnboaaPAllx14
import Derived.Test.YtenhnlclnjnboaaPAllx19
import Derived.Test.YtenhnlclnjnboaaPAllx20
import Derived.Test.YtenhnlclnjnboaaPAllx22
import Derived.Test.YtenhnlclnjnboaaPAllx24
import Derived.Test.YtenhnlclnjnboaaPAllx25
namespace Go.Proofs.Ytenhnlclnjnboaa.PAll
open Go.RowKit Go.Proofs.YtenhnlclnjnboaaW.PrintWords Go.Proofs.YtenhnlclnjnboaaW.PrintLast Go.Proofs.YtenhnlclnjnboaaW.PrintMore
attribute [local go_sem] max2_int min2_int max_two min_two max_three min_three max_four min_four   -- for this text's walks alone
set_option linter.unusedVariables false
set_option linter.unusedSimpArgs false

/-! ### mootlaw4_LedgerCloses: function 5 -/
mutual
def mootlaw4_LedgerCloses.j0 : Nat → List (S35) → List Int → Int → List (S35) → Int → Int → Bool → Option (Bool)
  | 0, _, _, _, _, _, _, _ => none
  | k + 1, x0, x1, x2, x7, x8, x9, x37 => if x37 = true then (mootlaw4_LedgerCloses.j1 k x0 x1 x2 x7 x8 1) else (mootlaw4_LedgerCloses.j1 k x0 x1 x2 x7 x8 x9)
def mootlaw4_LedgerCloses.j1 : Nat → List (S35) → List Int → Int → List (S35) → Int → Int → Option (Bool)
  | 0, _, _, _, _, _, _ => none
  | k + 1, x0, x1, x2, x7, x8, x9 => if x9 = 0 then (if (x0.length : Int) > 0 then (if 0 ≤ (wrap64 ((x0.length : Int) - 1)) then (if (wrap64 ((x0.length : Int) - 1)) < (x0.length : Int) then (mootlaw4_LedgerCloses.j2 k x0 x1 x2 x7 x8 x9 (decide (((rd_T35 x0 (wrap64 ((x0.length : Int) - 1))).f0) > x2))) else (none)) else (none)) else (mootlaw4_LedgerCloses.j2 k x0 x1 x2 x7 x8 x9 false)) else (mootlaw4_LedgerCloses.j2 k x0 x1 x2 x7 x8 x9 false)
def mootlaw4_LedgerCloses.j2 : Nat → List (S35) → List Int → Int → List (S35) → Int → Int → Bool → Option (Bool)
  | 0, _, _, _, _, _, _, _ => none
  | k + 1, x0, x1, x2, x7, x8, x9, x55 => if x55 = true then (mootlaw4_LedgerCloses.j3 k x0 x1 x2 x7 x8 9) else (mootlaw4_LedgerCloses.j3 k x0 x1 x2 x7 x8 x9)
def mootlaw4_LedgerCloses.j3 : Nat → List (S35) → List Int → Int → List (S35) → Int → Int → Option (Bool)
  | 0, _, _, _, _, _, _ => none
  | k + 1, x0, x1, x2, x7, x8, x9 => (ledger_Entry_18.f x0).bind fun t231 => (mootlaw4_LedgerCloses.l0 k x2 x7 x8 x9 t231 x1 (x1.length : Int) 0)
def mootlaw4_LedgerCloses.l0 : Nat → Int → List (S35) → Int → Int → List (S35) → List Int → Int → Int → Option (Bool)
  | 0, _, _, _, _, _, _, _, _ => none
  | k + 1, x2, x7, x8, x9, x11, x58, x59, x60 => if x60 < x59 then (if 0 ≤ x60 then (if x60 < (x58.length : Int) then (if x9 = 0 then (if (rd x58 x60) = 0 then (mootlaw4_LedgerCloses.l0 k x2 x7 x8 19 x11 x58 x59 (wrap64 (x60 + 1))) else (if (rd x58 x60) < 0 then (mootlaw4_LedgerCloses.l0 k x2 x7 x8 1 x11 x58 x59 (wrap64 (x60 + 1))) else (if (rd x58 x60) > 99 then (mootlaw4_LedgerCloses.l0 k x2 x7 x8 1 x11 x58 x59 (wrap64 (x60 + 1))) else ((mootlaw4_moved.f k x11 (rd x58 x60)).bind fun bt236 => (mootlaw4_LedgerCloses.l1 k x2 x7 x8 x9 x11 (rd x58 x60) bt236.1 bt236.2 x58 x59 x60))))) else (mootlaw4_LedgerCloses.l0 k x2 x7 x8 x9 x11 x58 x59 (wrap64 (x60 + 1)))) else (none)) else (none)) else (if x9 = 0 then (if x8 = 0 then ((ledger_Entry_24.f k x7 x11).bind fun t234 => (some t234)) else (some false)) else (if x8 = x9 then (some ((x7.length : Int) == 0)) else (some false)))
def mootlaw4_LedgerCloses.l1 : Nat → Int → List (S35) → Int → Int → List (S35) → Int → Int → Int → List Int → Int → Int → Option (Bool)
  | 0, _, _, _, _, _, _, _, _, _, _, _ => none
  | k + 1, x2, x7, x8, x9, x11, x13, x14, x15, x58, x59, x60 => if x14 = x15 then (mootlaw4_LedgerCloses.j6 k x2 x7 x8 x9 x11 x13 x14 x15 x58 x59 x60 false) else (mootlaw4_LedgerCloses.j6 k x2 x7 x8 x9 x11 x13 x14 x15 x58 x59 x60 (x9 == 0))
def mootlaw4_LedgerCloses.j6 : Nat → Int → List (S35) → Int → Int → List (S35) → Int → Int → Int → List Int → Int → Int → Bool → Option (Bool)
  | 0, _, _, _, _, _, _, _, _, _, _, _, _ => none
  | k + 1, x2, x7, x8, x9, x11, x13, x14, x15, x58, x59, x60, x89 => if x89 = true then (if x14 < x15 then (if x11.length < 4398046511104 then ((some (x11 ++ [(⟨x2, 0, x13, mn (mx (wrap64 (x14 - x15)) (wrap64 (x15 - x14))) 1099511627776⟩ : S35)] : List (S35))).bind fun y239 => ((mootlaw4_ledgerFault.f k y239).bind fun t242 => (mootlaw4_LedgerCloses.l1 k x2 x7 x8 t242 y239 x13 (wrap64 (x14 + (mn (mx (wrap64 (x14 - x15)) (wrap64 (x15 - x14))) 1099511627776))) x15 x58 x59 x60))) else (none)) else (if x11.length < 4398046511104 then ((some (x11 ++ [(⟨x2, x13, 0, mn (mx (wrap64 (x14 - x15)) (wrap64 (x15 - x14))) 1099511627776⟩ : S35)] : List (S35))).bind fun y243 => ((mootlaw4_ledgerFault.f k y243).bind fun t246 => (mootlaw4_LedgerCloses.l1 k x2 x7 x8 t246 y243 x13 x14 (wrap64 (x15 + (mn (mx (wrap64 (x14 - x15)) (wrap64 (x15 - x14))) 1099511627776))) x58 x59 x60))) else (none))) else (mootlaw4_LedgerCloses.l0 k x2 x7 x8 x9 x11 x58 x59 (wrap64 (x60 + 1)))
end
def mootlaw4_LedgerCloses.f (k : Nat) (l0 : List (S35)) (l1 : List Int) (a2 : Int) : Option (Bool) := (mootlaw4_posts.f k).bind fun t224 => (if t224 = true then ((ledger_Close.f k l0 l1 a2).bind fun bt225 => ((mootlaw4_ledgerFault.f k l0).bind fun t229 => (if t229 = 0 then (if a2 < 0 then (mootlaw4_LedgerCloses.j0 k l0 l1 a2 bt225.1 bt225.2 t229 true) else (mootlaw4_LedgerCloses.j0 k l0 l1 a2 bt225.1 bt225.2 t229 (decide (a2 > 1048575)))) else (mootlaw4_LedgerCloses.j0 k l0 l1 a2 bt225.1 bt225.2 t229 false)))) else (some false))
theorem mootlaw4_LedgerCloses.mono_l : ∀ k, (∀ y0 y1 y2 y3 y4 y5 y6, LeO (mootlaw4_LedgerCloses.j0 k y0 y1 y2 y3 y4 y5 y6) (mootlaw4_LedgerCloses.j0 (k + 1) y0 y1 y2 y3 y4 y5 y6)) ∧ (∀ y0 y1 y2 y3 y4 y5, LeO (mootlaw4_LedgerCloses.j1 k y0 y1 y2 y3 y4 y5) (mootlaw4_LedgerCloses.j1 (k + 1) y0 y1 y2 y3 y4 y5)) ∧ (∀ y0 y1 y2 y3 y4 y5 y6, LeO (mootlaw4_LedgerCloses.j2 k y0 y1 y2 y3 y4 y5 y6) (mootlaw4_LedgerCloses.j2 (k + 1) y0 y1 y2 y3 y4 y5 y6)) ∧ (∀ y0 y1 y2 y3 y4 y5, LeO (mootlaw4_LedgerCloses.j3 k y0 y1 y2 y3 y4 y5) (mootlaw4_LedgerCloses.j3 (k + 1) y0 y1 y2 y3 y4 y5)) ∧ (∀ y0 y1 y2 y3 y4 y5 y6 y7, LeO (mootlaw4_LedgerCloses.l0 k y0 y1 y2 y3 y4 y5 y6 y7) (mootlaw4_LedgerCloses.l0 (k + 1) y0 y1 y2 y3 y4 y5 y6 y7)) ∧ (∀ y0 y1 y2 y3 y4 y5 y6 y7 y8 y9 y10, LeO (mootlaw4_LedgerCloses.l1 k y0 y1 y2 y3 y4 y5 y6 y7 y8 y9 y10) (mootlaw4_LedgerCloses.l1 (k + 1) y0 y1 y2 y3 y4 y5 y6 y7 y8 y9 y10)) ∧ (∀ y0 y1 y2 y3 y4 y5 y6 y7 y8 y9 y10 y11, LeO (mootlaw4_LedgerCloses.j6 k y0 y1 y2 y3 y4 y5 y6 y7 y8 y9 y10 y11) (mootlaw4_LedgerCloses.j6 (k + 1) y0 y1 y2 y3 y4 y5 y6 y7 y8 y9 y10 y11))
  | 0 => ⟨fun _ _ _ _ _ _ _ r h => by simp [mootlaw4_LedgerCloses.j0] at h, fun _ _ _ _ _ _ r h => by simp [mootlaw4_LedgerCloses.j1] at h, fun _ _ _ _ _ _ _ r h => by simp [mootlaw4_LedgerCloses.j2] at h, fun _ _ _ _ _ _ r h => by simp [mootlaw4_LedgerCloses.j3] at h, fun _ _ _ _ _ _ _ _ r h => by simp [mootlaw4_LedgerCloses.l0] at h, fun _ _ _ _ _ _ _ _ _ _ _ r h => by simp [mootlaw4_LedgerCloses.l1] at h, fun _ _ _ _ _ _ _ _ _ _ _ _ r h => by simp [mootlaw4_LedgerCloses.j6] at h⟩
  | k + 1 => by
    obtain ⟨ih0, ih1, ih2, ih3, ih4, ih5, ih6⟩ := mootlaw4_LedgerCloses.mono_l k
    refine ⟨?_, ?_, ?_, ?_, ?_, ?_, ?_⟩
    · intro y0 y1 y2 y3 y4 y5 y6
      unfold mootlaw4_LedgerCloses.j0
      repeat' first
      | (with_reducible exact ih0 _ _ _ _ _ _ _)
      | (with_reducible exact ih1 _ _ _ _ _ _)
      | (with_reducible exact ih2 _ _ _ _ _ _ _)
      | (with_reducible exact ih3 _ _ _ _ _ _)
      | (with_reducible exact ih4 _ _ _ _ _ _ _ _)
      | (with_reducible exact ih5 _ _ _ _ _ _ _ _ _ _ _)
      | (with_reducible exact ih6 _ _ _ _ _ _ _ _ _ _ _ _)
      | (with_reducible exact ledger_Close.mono _ _ _ _)
      | (with_reducible exact ledger_Entry_24.mono _ _ _)
      | (with_reducible exact mootlaw4_ledgerFault.mono _ _)
      | (with_reducible exact mootlaw4_moved.mono _ _ _)
      | (with_reducible exact mootlaw4_posts.mono _)
      | (with_reducible exact LeO.refl _)
      | (with_reducible exact LeO.none _)
      | (with_reducible refine LeO.ite ?_ ?_)
      | (with_reducible refine LeO.bind ?_ (fun _ => ?_))
      | exact ih0 _ _ _ _ _ _ _
      | exact ih1 _ _ _ _ _ _
      | exact ih2 _ _ _ _ _ _ _
      | exact ih3 _ _ _ _ _ _
      | exact ih4 _ _ _ _ _ _ _ _
      | exact ih5 _ _ _ _ _ _ _ _ _ _ _
      | exact ih6 _ _ _ _ _ _ _ _ _ _ _ _
      | exact ledger_Close.mono _ _ _ _
      | exact ledger_Entry_24.mono _ _ _
      | exact mootlaw4_ledgerFault.mono _ _
      | exact mootlaw4_moved.mono _ _ _
      | exact mootlaw4_posts.mono _
      | exact LeO.none _
      | refine LeO.ite ?_ ?_
      | refine LeO.bind ?_ (fun _ => ?_)
    · intro y0 y1 y2 y3 y4 y5
      unfold mootlaw4_LedgerCloses.j1
      repeat' first
      | (with_reducible exact ih0 _ _ _ _ _ _ _)
      | (with_reducible exact ih1 _ _ _ _ _ _)
      | (with_reducible exact ih2 _ _ _ _ _ _ _)
      | (with_reducible exact ih3 _ _ _ _ _ _)
      | (with_reducible exact ih4 _ _ _ _ _ _ _ _)
      | (with_reducible exact ih5 _ _ _ _ _ _ _ _ _ _ _)
      | (with_reducible exact ih6 _ _ _ _ _ _ _ _ _ _ _ _)
      | (with_reducible exact ledger_Close.mono _ _ _ _)
      | (with_reducible exact ledger_Entry_24.mono _ _ _)
      | (with_reducible exact mootlaw4_ledgerFault.mono _ _)
      | (with_reducible exact mootlaw4_moved.mono _ _ _)
      | (with_reducible exact mootlaw4_posts.mono _)
      | (with_reducible exact LeO.refl _)
      | (with_reducible exact LeO.none _)
      | (with_reducible refine LeO.ite ?_ ?_)
      | (with_reducible refine LeO.bind ?_ (fun _ => ?_))
      | exact ih0 _ _ _ _ _ _ _
      | exact ih1 _ _ _ _ _ _
      | exact ih2 _ _ _ _ _ _ _
      | exact ih3 _ _ _ _ _ _
      | exact ih4 _ _ _ _ _ _ _ _
      | exact ih5 _ _ _ _ _ _ _ _ _ _ _
      | exact ih6 _ _ _ _ _ _ _ _ _ _ _ _
      | exact ledger_Close.mono _ _ _ _
      | exact ledger_Entry_24.mono _ _ _
      | exact mootlaw4_ledgerFault.mono _ _
      | exact mootlaw4_moved.mono _ _ _
      | exact mootlaw4_posts.mono _
      | exact LeO.none _
      | refine LeO.ite ?_ ?_
      | refine LeO.bind ?_ (fun _ => ?_)
    · intro y0 y1 y2 y3 y4 y5 y6
      unfold mootlaw4_LedgerCloses.j2
      repeat' first
      | (with_reducible exact ih0 _ _ _ _ _ _ _)
      | (with_reducible exact ih1 _ _ _ _ _ _)
      | (with_reducible exact ih2 _ _ _ _ _ _ _)
      | (with_reducible exact ih3 _ _ _ _ _ _)
      | (with_reducible exact ih4 _ _ _ _ _ _ _ _)
      | (with_reducible exact ih5 _ _ _ _ _ _ _ _ _ _ _)
      | (with_reducible exact ih6 _ _ _ _ _ _ _ _ _ _ _ _)
      | (with_reducible exact ledger_Close.mono _ _ _ _)
      | (with_reducible exact ledger_Entry_24.mono _ _ _)
      | (with_reducible exact mootlaw4_ledgerFault.mono _ _)
      | (with_reducible exact mootlaw4_moved.mono _ _ _)
      | (with_reducible exact mootlaw4_posts.mono _)
      | (with_reducible exact LeO.refl _)
      | (with_reducible exact LeO.none _)
      | (with_reducible refine LeO.ite ?_ ?_)
      | (with_reducible refine LeO.bind ?_ (fun _ => ?_))
      | exact ih0 _ _ _ _ _ _ _
      | exact ih1 _ _ _ _ _ _
      | exact ih2 _ _ _ _ _ _ _
      | exact ih3 _ _ _ _ _ _
      | exact ih4 _ _ _ _ _ _ _ _
      | exact ih5 _ _ _ _ _ _ _ _ _ _ _
      | exact ih6 _ _ _ _ _ _ _ _ _ _ _ _
      | exact ledger_Close.mono _ _ _ _
      | exact ledger_Entry_24.mono _ _ _
      | exact mootlaw4_ledgerFault.mono _ _
      | exact mootlaw4_moved.mono _ _ _
      | exact mootlaw4_posts.mono _
      | exact LeO.none _
      | refine LeO.ite ?_ ?_
      | refine LeO.bind ?_ (fun _ => ?_)
    · intro y0 y1 y2 y3 y4 y5
      unfold mootlaw4_LedgerCloses.j3
      repeat' first
      | (with_reducible exact ih0 _ _ _ _ _ _ _)
      | (with_reducible exact ih1 _ _ _ _ _ _)
      | (with_reducible exact ih2 _ _ _ _ _ _ _)
      | (with_reducible exact ih3 _ _ _ _ _ _)
      | (with_reducible exact ih4 _ _ _ _ _ _ _ _)
      | (with_reducible exact ih5 _ _ _ _ _ _ _ _ _ _ _)
      | (with_reducible exact ih6 _ _ _ _ _ _ _ _ _ _ _ _)
      | (with_reducible exact ledger_Close.mono _ _ _ _)
      | (with_reducible exact ledger_Entry_24.mono _ _ _)
      | (with_reducible exact mootlaw4_ledgerFault.mono _ _)
      | (with_reducible exact mootlaw4_moved.mono _ _ _)
      | (with_reducible exact mootlaw4_posts.mono _)
      | (with_reducible exact LeO.refl _)
      | (with_reducible exact LeO.none _)
      | (with_reducible refine LeO.ite ?_ ?_)
      | (with_reducible refine LeO.bind ?_ (fun _ => ?_))
      | exact ih0 _ _ _ _ _ _ _
      | exact ih1 _ _ _ _ _ _
      | exact ih2 _ _ _ _ _ _ _
      | exact ih3 _ _ _ _ _ _
      | exact ih4 _ _ _ _ _ _ _ _
      | exact ih5 _ _ _ _ _ _ _ _ _ _ _
      | exact ih6 _ _ _ _ _ _ _ _ _ _ _ _
      | exact ledger_Close.mono _ _ _ _
      | exact ledger_Entry_24.mono _ _ _
      | exact mootlaw4_ledgerFault.mono _ _
      | exact mootlaw4_moved.mono _ _ _
      | exact mootlaw4_posts.mono _
      | exact LeO.none _
      | refine LeO.ite ?_ ?_
      | refine LeO.bind ?_ (fun _ => ?_)
    · intro y0 y1 y2 y3 y4 y5 y6 y7
      unfold mootlaw4_LedgerCloses.l0
      repeat' first
      | (with_reducible exact ih0 _ _ _ _ _ _ _)
      | (with_reducible exact ih1 _ _ _ _ _ _)
      | (with_reducible exact ih2 _ _ _ _ _ _ _)
      | (with_reducible exact ih3 _ _ _ _ _ _)
      | (with_reducible exact ih4 _ _ _ _ _ _ _ _)
      | (with_reducible exact ih5 _ _ _ _ _ _ _ _ _ _ _)
      | (with_reducible exact ih6 _ _ _ _ _ _ _ _ _ _ _ _)
      | (with_reducible exact ledger_Close.mono _ _ _ _)
      | (with_reducible exact ledger_Entry_24.mono _ _ _)
      | (with_reducible exact mootlaw4_ledgerFault.mono _ _)
      | (with_reducible exact mootlaw4_moved.mono _ _ _)
      | (with_reducible exact mootlaw4_posts.mono _)
      | (with_reducible exact LeO.refl _)
      | (with_reducible exact LeO.none _)
      | (with_reducible refine LeO.ite ?_ ?_)
      | (with_reducible refine LeO.bind ?_ (fun _ => ?_))
      | exact ih0 _ _ _ _ _ _ _
      | exact ih1 _ _ _ _ _ _
      | exact ih2 _ _ _ _ _ _ _
      | exact ih3 _ _ _ _ _ _
      | exact ih4 _ _ _ _ _ _ _ _
      | exact ih5 _ _ _ _ _ _ _ _ _ _ _
      | exact ih6 _ _ _ _ _ _ _ _ _ _ _ _
      | exact ledger_Close.mono _ _ _ _
      | exact ledger_Entry_24.mono _ _ _
      | exact mootlaw4_ledgerFault.mono _ _
      | exact mootlaw4_moved.mono _ _ _
      | exact mootlaw4_posts.mono _
      | exact LeO.none _
      | refine LeO.ite ?_ ?_
      | refine LeO.bind ?_ (fun _ => ?_)
    · intro y0 y1 y2 y3 y4 y5 y6 y7 y8 y9 y10
      unfold mootlaw4_LedgerCloses.l1
      repeat' first
      | (with_reducible exact ih0 _ _ _ _ _ _ _)
      | (with_reducible exact ih1 _ _ _ _ _ _)
      | (with_reducible exact ih2 _ _ _ _ _ _ _)
      | (with_reducible exact ih3 _ _ _ _ _ _)
      | (with_reducible exact ih4 _ _ _ _ _ _ _ _)
      | (with_reducible exact ih5 _ _ _ _ _ _ _ _ _ _ _)
      | (with_reducible exact ih6 _ _ _ _ _ _ _ _ _ _ _ _)
      | (with_reducible exact ledger_Close.mono _ _ _ _)
      | (with_reducible exact ledger_Entry_24.mono _ _ _)
      | (with_reducible exact mootlaw4_ledgerFault.mono _ _)
      | (with_reducible exact mootlaw4_moved.mono _ _ _)
      | (with_reducible exact mootlaw4_posts.mono _)
      | (with_reducible exact LeO.refl _)
      | (with_reducible exact LeO.none _)
      | (with_reducible refine LeO.ite ?_ ?_)
      | (with_reducible refine LeO.bind ?_ (fun _ => ?_))
      | exact ih0 _ _ _ _ _ _ _
      | exact ih1 _ _ _ _ _ _
      | exact ih2 _ _ _ _ _ _ _
      | exact ih3 _ _ _ _ _ _
      | exact ih4 _ _ _ _ _ _ _ _
      | exact ih5 _ _ _ _ _ _ _ _ _ _ _
      | exact ih6 _ _ _ _ _ _ _ _ _ _ _ _
      | exact ledger_Close.mono _ _ _ _
      | exact ledger_Entry_24.mono _ _ _
      | exact mootlaw4_ledgerFault.mono _ _
      | exact mootlaw4_moved.mono _ _ _
      | exact mootlaw4_posts.mono _
      | exact LeO.none _
      | refine LeO.ite ?_ ?_
      | refine LeO.bind ?_ (fun _ => ?_)
    · intro y0 y1 y2 y3 y4 y5 y6 y7 y8 y9 y10 y11
      unfold mootlaw4_LedgerCloses.j6
      repeat' first
      | (with_reducible exact ih0 _ _ _ _ _ _ _)
      | (with_reducible exact ih1 _ _ _ _ _ _)
      | (with_reducible exact ih2 _ _ _ _ _ _ _)
      | (with_reducible exact ih3 _ _ _ _ _ _)
      | (with_reducible exact ih4 _ _ _ _ _ _ _ _)
      | (with_reducible exact ih5 _ _ _ _ _ _ _ _ _ _ _)
      | (with_reducible exact ih6 _ _ _ _ _ _ _ _ _ _ _ _)
      | (with_reducible exact ledger_Close.mono _ _ _ _)
      | (with_reducible exact ledger_Entry_24.mono _ _ _)
      | (with_reducible exact mootlaw4_ledgerFault.mono _ _)
      | (with_reducible exact mootlaw4_moved.mono _ _ _)
      | (with_reducible exact mootlaw4_posts.mono _)
      | (with_reducible exact LeO.refl _)
      | (with_reducible exact LeO.none _)
      | (with_reducible refine LeO.ite ?_ ?_)
      | (with_reducible refine LeO.bind ?_ (fun _ => ?_))
      | exact ih0 _ _ _ _ _ _ _
      | exact ih1 _ _ _ _ _ _
      | exact ih2 _ _ _ _ _ _ _
      | exact ih3 _ _ _ _ _ _
      | exact ih4 _ _ _ _ _ _ _ _
      | exact ih5 _ _ _ _ _ _ _ _ _ _ _
      | exact ih6 _ _ _ _ _ _ _ _ _ _ _ _
      | exact ledger_Close.mono _ _ _ _
      | exact ledger_Entry_24.mono _ _ _
      | exact mootlaw4_ledgerFault.mono _ _
      | exact mootlaw4_moved.mono _ _ _
      | exact mootlaw4_posts.mono _
      | exact LeO.none _
      | refine LeO.ite ?_ ?_
      | refine LeO.bind ?_ (fun _ => ?_)
theorem mootlaw4_LedgerCloses.mono : ∀ a0 a1 a2 k, LeO (mootlaw4_LedgerCloses.f k a0 a1 a2) (mootlaw4_LedgerCloses.f (k + 1) a0 a1 a2) := by
  intro a0 a1 a2 k
  obtain ⟨ih0, ih1, ih2, ih3, ih4, ih5, ih6⟩ := mootlaw4_LedgerCloses.mono_l k
  unfold mootlaw4_LedgerCloses.f
  repeat' first
      | (with_reducible exact ih0 _ _ _ _ _ _ _)
      | (with_reducible exact ih1 _ _ _ _ _ _)
      | (with_reducible exact ih2 _ _ _ _ _ _ _)
      | (with_reducible exact ih3 _ _ _ _ _ _)
      | (with_reducible exact ih4 _ _ _ _ _ _ _ _)
      | (with_reducible exact ih5 _ _ _ _ _ _ _ _ _ _ _)
      | (with_reducible exact ih6 _ _ _ _ _ _ _ _ _ _ _ _)
      | (with_reducible exact ledger_Close.mono _ _ _ _)
      | (with_reducible exact ledger_Entry_24.mono _ _ _)
      | (with_reducible exact mootlaw4_ledgerFault.mono _ _)
      | (with_reducible exact mootlaw4_moved.mono _ _ _)
      | (with_reducible exact mootlaw4_posts.mono _)
      | (with_reducible exact LeO.refl _)
      | (with_reducible exact LeO.none _)
      | (with_reducible refine LeO.ite ?_ ?_)
      | (with_reducible refine LeO.bind ?_ (fun _ => ?_))
      | exact ih0 _ _ _ _ _ _ _
      | exact ih1 _ _ _ _ _ _
      | exact ih2 _ _ _ _ _ _ _
      | exact ih3 _ _ _ _ _ _
      | exact ih4 _ _ _ _ _ _ _ _
      | exact ih5 _ _ _ _ _ _ _ _ _ _ _
      | exact ih6 _ _ _ _ _ _ _ _ _ _ _ _
      | exact ledger_Close.mono _ _ _ _
      | exact ledger_Entry_24.mono _ _ _
      | exact mootlaw4_ledgerFault.mono _ _
      | exact mootlaw4_moved.mono _ _ _
      | exact mootlaw4_posts.mono _
      | exact LeO.none _
      | refine LeO.ite ?_ ?_
      | refine LeO.bind ?_ (fun _ => ?_)
set_option maxHeartbeats 8000000 in
set_option maxRecDepth 100000 in
theorem mootlaw4_LedgerCloses.calls (k : Nat) (A0 : Option Addr) (c0 : Nat) (l0 : List (S35)) (A1 : Option Addr) (c1 : Nat) (l1 : List Int) (a2 : Int) (r : Bool) (w : World) (hr0 : Kd.C k35 w A0 l0.length l0) (hc0 : l0.length ≤ c0) (hr1 : Kd.C (Kd.int .i64) w A1 l1.length l1) (hc1 : l1.length ≤ c1) (h : mootlaw4_LedgerCloses.f k l0 l1 a2 = some r) :
    Calls Try.prog 5 #[.slice A0 l0.length c0, .slice A1 l1.length c1, .int .i64 a2] w fun e w' => e = .returned (.bool r) ∧ Below w.heap.size w w' := by
  have hu35 := Try.underlying35
  have HR0 := Aside0.mk hr0
  have HC0 := Aside0.mk hc0
  clear hr0 hc0
  have HR1 := Aside0.mk hr1
  have HC1 := Aside0.mk hc1
  clear hr1 hc1
  have HB := Aside0.mk (Below.refl w.heap.size w)
  have H : ((mootlaw4_posts.f k).bind fun t224 => (if t224 = true then ((ledger_Close.f k l0 l1 a2).bind fun bt225 => ((mootlaw4_ledgerFault.f k l0).bind fun t229 => (if t229 = 0 then (if a2 < 0 then (mootlaw4_LedgerCloses.j0 k l0 l1 a2 bt225.1 bt225.2 t229 true) else (mootlaw4_LedgerCloses.j0 k l0 l1 a2 bt225.1 bt225.2 t229 (decide (a2 > 1048575)))) else (mootlaw4_LedgerCloses.j0 k l0 l1 a2 bt225.1 bt225.2 t229 false)))) else (some false))) = some r := h
  clear h
  replace H := Option.bind_eq_some_iff.mp H
  obtain ⟨t224, A40, H⟩ := H
  replace H : (if t224 = true then ((ledger_Close.f k l0 l1 a2).bind fun bt225 => ((mootlaw4_ledgerFault.f k l0).bind fun t229 => (if t229 = 0 then (if a2 < 0 then (mootlaw4_LedgerCloses.j0 k l0 l1 a2 bt225.1 bt225.2 t229 true) else (mootlaw4_LedgerCloses.j0 k l0 l1 a2 bt225.1 bt225.2 t229 (decide (a2 > 1048575)))) else (mootlaw4_LedgerCloses.j0 k l0 l1 a2 bt225.1 bt225.2 t229 false)))) else (some false)) = some r := H
  have A4 := Aside0.mk A40
  clear A40
  by_cases c5 : t224 = true
  · subst c5
    have H1 : ((ledger_Close.f k l0 l1 a2).bind fun bt225 => ((mootlaw4_ledgerFault.f k l0).bind fun t229 => (if t229 = 0 then (if a2 < 0 then (mootlaw4_LedgerCloses.j0 k l0 l1 a2 bt225.1 bt225.2 t229 true) else (mootlaw4_LedgerCloses.j0 k l0 l1 a2 bt225.1 bt225.2 t229 (decide (a2 > 1048575)))) else (mootlaw4_LedgerCloses.j0 k l0 l1 a2 bt225.1 bt225.2 t229 false)))) = some r := by rw [if_pos rfl] at H; exact H
    clear H
    have H := H1
    clear H1
    replace H := Option.bind_eq_some_iff.mp H
    obtain ⟨⟨t225, t226⟩, A60, H⟩ := H
    replace H : ((mootlaw4_ledgerFault.f k l0).bind fun t229 => (if t229 = 0 then (if a2 < 0 then (mootlaw4_LedgerCloses.j0 k l0 l1 a2 t225 t226 t229 true) else (mootlaw4_LedgerCloses.j0 k l0 l1 a2 t225 t226 t229 (decide (a2 > 1048575)))) else (mootlaw4_LedgerCloses.j0 k l0 l1 a2 t225 t226 t229 false))) = some r := H
    have A6 := Aside0.mk A60
    clear A60
    replace H := Option.bind_eq_some_iff.mp H
    obtain ⟨t229, A70, H⟩ := H
    replace H : (if t229 = 0 then (if a2 < 0 then (mootlaw4_LedgerCloses.j0 k l0 l1 a2 t225 t226 t229 true) else (mootlaw4_LedgerCloses.j0 k l0 l1 a2 t225 t226 t229 (decide (a2 > 1048575)))) else (mootlaw4_LedgerCloses.j0 k l0 l1 a2 t225 t226 t229 false)) = some r := H
    have A7 := Aside0.mk A70
    clear A70
    have HC8 := Aside0.mk H
    clear H
    go_enter Try.func5, Try.ntmps5
    go_upto_region 5 with (first | ((with_reducible refine gate_callee (f := 19) rfl ?_); refine goesL_ (some 17) rfl rfl Try.func19 (by kernel_rfl) rfl #[] rfl (by (try simp only [List.map_toArray, List.map_cons, List.map_nil]); first | done | rfl | (simp only [List.length_drop, List.length_take]; rfl)) ?_; (with_reducible refine (mootlaw4_posts.calls k  true _ A4.out).mono ?_); rintro e w9 ⟨rfl, hb⟩; refine ⟨_, rfl, ?_⟩; have n0_ := Aside0.mk (below_step (by repeat (first | (with_reducible first | exact HB.out | apply below_alloc | apply pw_below_drewN | apply below_drew1) | exact HB.out)) hb); clear HB; have HB := n0_; clear n0_; (try clear hb); (try clear hb2); (try clear hk); (try clear hi)) | ((with_reducible refine gate_callee (f := 20) rfl ?_); refine goesL_ (some 23) rfl rfl Try.func20 (by kernel_rfl) rfl #[.slice A0 l0.length c0, .slice A1 l1.length c1, .int .i64 a2] rfl (by (try simp only [List.map_toArray, List.map_cons, List.map_nil]); first | done | rfl | (simp only [List.length_drop, List.length_take]; rfl)) ?_; (with_reducible refine (ledger_Close.calls k _ _ l0 _ _ l1 a2 t225 t226 _ ?side1 ?side2 ?side3 ?side4 A6.out).mono ?_); (case side1 => repeat (first | exact (Kd.C_below HR0.out HB.out) | (with_reducible refine Kd.C_alloc ?_ _) | (with_reducible refine Kd.C_drewN ?_ _) | (with_reducible refine Kd.C_drew ?_))); (case side2 => exact HC0.out); (case side3 => repeat (first | exact (Kd.C_below HR1.out HB.out) | (with_reducible refine Kd.C_alloc ?_ _) | (with_reducible refine Kd.C_drewN ?_ _) | (with_reducible refine Kd.C_drew ?_))); (case side4 => exact HC1.out); rintro e w10 ⟨v227, rfl, ho0, hb⟩; refine ⟨_, rfl, ?_⟩; have n0_ := Aside0.mk (Kd.R_lower ho0 (below_size (by repeat (first | (with_reducible first | exact HB.out | apply below_alloc | apply pw_below_drewN | apply below_drew1) | exact HB.out)))); have n1_ := Aside0.mk (below_step (by repeat (first | (with_reducible first | exact HB.out | apply below_alloc | apply pw_below_drewN | apply below_drew1) | exact HB.out)) hb); clear HB; have HO228 := n0_; have HB := n1_; clear n0_ n1_; (try clear hb); (try clear hb2); (try clear hk); (try clear hi); (try clear ho0)) | ((with_reducible refine gate_callee (f := 21) rfl ?_); refine goesL_ (some 27) rfl rfl Try.func21 (by kernel_rfl) rfl #[.slice A0 l0.length c0] rfl (by (try simp only [List.map_toArray, List.map_cons, List.map_nil]); first | done | rfl | (simp only [List.length_drop, List.length_take]; rfl)) ?_; (with_reducible refine (mootlaw4_ledgerFault.calls k _ _ l0 t229 _ ?side1 ?side2 A7.out).mono ?_); (case side1 => repeat (first | exact (Kd.C_below HR0.out HB.out) | (with_reducible refine Kd.C_alloc ?_ _) | (with_reducible refine Kd.C_drewN ?_ _) | (with_reducible refine Kd.C_drew ?_))); (case side2 => exact HC0.out); rintro e w11 ⟨rfl, hb⟩; refine ⟨_, rfl, ?_⟩; have n0_ := Aside0.mk (Kd.R_below (by (with_reducible repeat (first | apply Kd.R_alloc | apply Kd.R_drewN | apply Kd.R_drew)); exact HO228.out) hb); have n1_ := Aside0.mk (below_step (by repeat (first | (with_reducible first | exact HB.out | apply below_alloc | apply pw_below_drewN | apply below_drew1) | exact HB.out)) hb); clear HO228; clear HB; have HO228 := n0_; have HB := n1_; clear n0_ n1_; (try clear hb); (try clear hb2); (try clear hk); (try clear hi)))
    (try simp only [Act.put, List.setIfInBounds_toArray, List.set_cons_zero, List.set_cons_succ])
    go_cut [37] (fun v37 wc => ∃ (kq : Nat) (x37_7 : Bool), v37 = .bool x37_7 ∧ Aside0 (mootlaw4_LedgerCloses.j0 kq l0 l1 a2 t225 t226 t229 x37_7 = some r) ∧ Aside0 (kq ≤ k) ∧ Aside0 (Kd.R k35 35 wc w.heap.size (fun _ => True) v227 t225) ∧ Aside0 (Below w.heap.size w wc))
    case first =>
      have H := HC8.out
      clear HC8
      by_cases c12 : t229 = 0
      · rw [if_pos c12] at H
        have c12b0 : (t229 == 0) = true := beq_iff_eq.mpr c12
        have c12b1 : (t229 != 0) = false := bne_eq_false_iff_eq.mpr c12
        clear c12
        (first | rw [c12b0] | (simp only [i64_w, i32_w]; rw [c12b0]) | skip)
        by_cases c13 : a2 < 0
        · rw [if_pos c13] at H
          have c13b0 : decide (a2 < 0) = true := decide_eq_true c13
          clear c13
          have H' := Aside0.mk H
          clear H
          go_wp2
          go_meet
          case rel => exact ⟨_, (true), (by first | rfl | (simp; done) | (simp [*]; done)), H', ⟨by first | omega | exact Nat.le_refl _⟩, ⟨by (with_reducible repeat (first | apply Kd.R_alloc | apply Kd.R_drewN | apply Kd.R_drew)); exact HO228.out⟩, ⟨by repeat (first | (with_reducible first | exact HB.out | apply below_alloc | apply pw_below_drewN | apply below_drew1) | exact HB.out)⟩⟩
        · rw [if_neg c13] at H
          have c13b0 : decide (a2 < 0) = false := decide_eq_false c13
          clear c13
          have H' := Aside0.mk H
          clear H
          go_wp2
          go_meet
          case rel => exact ⟨_, (decide (a2 > 1048575)), (by first | rfl | (simp; done) | (simp [*]; done)), H', ⟨by first | omega | exact Nat.le_refl _⟩, ⟨by (with_reducible repeat (first | apply Kd.R_alloc | apply Kd.R_drewN | apply Kd.R_drew)); exact HO228.out⟩, ⟨by repeat (first | (with_reducible first | exact HB.out | apply below_alloc | apply pw_below_drewN | apply below_drew1) | exact HB.out)⟩⟩
      · rw [if_neg c12] at H
        have c12b0 : (t229 == 0) = false := beq_eq_false_iff_ne.mpr c12
        have c12b1 : (t229 != 0) = true := bne_iff_ne.mpr c12
        (first | rw [c12b0] | (simp only [i64_w, i32_w]; rw [c12b0]) | skip)
        have H' := Aside0.mk H
        clear H
        go_wp2
        go_meet
        case rel => exact ⟨_, (false), (by first | rfl | (simp; done) | (simp [*]; done)), H', ⟨by first | omega | exact Nat.le_refl _⟩, ⟨by (with_reducible repeat (first | apply Kd.R_alloc | apply Kd.R_drewN | apply Kd.R_drew)); exact HO228.out⟩, ⟨by repeat (first | (with_reducible first | exact HB.out | apply below_alloc | apply pw_below_drewN | apply below_drew1) | exact HB.out)⟩⟩
    case rest =>
      clear HC8
      try clear c1
      try clear c2
      try clear p2
      try clear c5
      try clear c12
      try clear c12b0
      try clear c12b1
      try clear c13
      try clear c13b0
      obtain ⟨kq, x37_7, rfl, HA, HJ7, HO_7, HB⟩ := hcut
      cases kq with
      | zero => exact absurd HA.out (by simp [mootlaw4_LedgerCloses.j0])
      | succ kj7 =>
        have H := HA.out
        clear HA
        simp only [mootlaw4_LedgerCloses.j0] at H
        have HC14 := Aside0.mk H
        clear H
        go_upto_if 37 with (fail)
        go_cut [9] (fun v9 wc => ∃ (kq : Nat) (x9_13 : Int), v9 = .int .i64 x9_13 ∧ Aside0 (mootlaw4_LedgerCloses.j1 kq l0 l1 a2 t225 t226 x9_13 = some r) ∧ Aside0 (kq ≤ kj7) ∧ Aside0 (Kd.R k35 35 wc w.heap.size (fun _ => True) v227 t225) ∧ Aside0 (Below w.heap.size w wc))
        case first =>
          have H := HC14.out
          clear HC14
          by_cases c15 : x37_7 = true
          · subst c15
            have H1 : (mootlaw4_LedgerCloses.j1 kj7 l0 l1 a2 t225 t226 1) = some r := by rw [if_pos rfl] at H; exact H
            clear H
            have H := H1
            clear H1
            have H' := Aside0.mk H
            clear H
            go_wp2
            go_meet
            case rel => exact ⟨_, (1), (by first | rfl | (simp; done) | (simp [*]; done)), H', ⟨by have := HJ7.out; first | omega | exact Nat.le_refl _⟩, ⟨by (with_reducible repeat (first | apply Kd.R_alloc | apply Kd.R_drewN | apply Kd.R_drew)); exact HO_7.out⟩, ⟨by repeat (first | (with_reducible first | exact HB.out | apply below_alloc | apply pw_below_drewN | apply below_drew1) | exact HB.out)⟩⟩
          · replace c15 := Bool.eq_false_iff.mpr c15
            subst c15
            have H1 : (mootlaw4_LedgerCloses.j1 kj7 l0 l1 a2 t225 t226 t229) = some r := by rw [if_neg (show ¬ (false = true) by decide)] at H; exact H
            clear H
            have H := H1
            clear H1
            have H' := Aside0.mk H
            clear H
            go_wp2
            go_meet
            case rel => exact ⟨_, (t229), (by first | rfl | (simp; done) | (simp [*]; done)), H', ⟨by have := HJ7.out; first | omega | exact Nat.le_refl _⟩, ⟨by (with_reducible repeat (first | apply Kd.R_alloc | apply Kd.R_drewN | apply Kd.R_drew)); exact HO_7.out⟩, ⟨by repeat (first | (with_reducible first | exact HB.out | apply below_alloc | apply pw_below_drewN | apply below_drew1) | exact HB.out)⟩⟩
        case rest =>
          clear HC14
          try clear c1
          try clear c2
          try clear p2
          try clear c5
          try clear c12
          try clear c12b0
          try clear c12b1
          try clear c13
          try clear c13b0
          try clear c15
          try clear p2
          obtain ⟨kq, x9_13, rfl, HA, HJ13, HO_7, HB⟩ := hcut
          cases kq with
          | zero => exact absurd HA.out (by simp [mootlaw4_LedgerCloses.j1])
          | succ kj13 =>
            have H := HA.out
            clear HA
            simp only [mootlaw4_LedgerCloses.j1] at H
            have HC16 := Aside0.mk H
            clear H
            go_upto_region 8 with (fail)
            go_cut [55] (fun v55 wc => ∃ (kq : Nat) (x55_15 : Bool), v55 = .bool x55_15 ∧ Aside0 (mootlaw4_LedgerCloses.j2 kq l0 l1 a2 t225 t226 x9_13 x55_15 = some r) ∧ Aside0 (kq ≤ kj13) ∧ Aside0 (Kd.R k35 35 wc w.heap.size (fun _ => True) v227 t225) ∧ Aside0 (Below w.heap.size w wc))
            case first =>
              have H := HC16.out
              clear HC16
              by_cases c17 : x9_13 = 0
              · rw [if_pos c17] at H
                have c17b0 : (x9_13 == 0) = true := beq_iff_eq.mpr c17
                have c17b1 : (x9_13 != 0) = false := bne_eq_false_iff_eq.mpr c17
                clear c17
                (first | rw [c17b0] | (simp only [i64_w, i32_w]; rw [c17b0]) | skip)
                by_cases c18 : (l0.length : Int) > 0
                · rw [if_pos c18] at H
                  have c18b0 : decide (0 < (l0.length : Int)) = true := decide_eq_true c18
                  have c18b1 : decide (0 < l0.length) = true := decide_eq_true (by omega)
                  clear c18
                  obtain ⟨ji19, hji19⟩ : ∃ j_ : Int, (wrap64 ((l0.length : Int) - 1)) = j_ := ⟨_, rfl⟩
                  replace H : (if 0 ≤ (ji19) then (if (ji19) < (l0.length : Int) then (mootlaw4_LedgerCloses.j2 kj13 l0 l1 a2 t225 t226 x9_13 (decide (((rd_T35 l0 (ji19)).f0) > a2))) else (none)) else (none)) = some r := by first | (rw [hji19] at H; exact H) | (simp only [hji19] at H ⊢; exact H)
                  have hji19w : (IntKind.i64.wrap ((l0.length : Int) - 1)) = ji19 := (i64_w _).trans hji19
                  by_cases c20 : 0 ≤ (ji19)
                  · rw [if_pos c20] at H
                    have c20b0 : decide (0 ≤ (ji19)) = true := decide_eq_true c20
                    clear c20
                    by_cases c21 : (ji19) < (l0.length : Int)
                    · rw [if_pos c21] at H
                      have c21b0 : decide ((ji19) < (l0.length : Int)) = true := decide_eq_true c21
                      clear c21
                      have H' := Aside0.mk H
                      clear H
                      have p230 : 0 ≤ ((ji19) : Int) := of_decide_eq_true (by first | (with_reducible assumption) | assumption)
                      have q230 : (ji19) < (l0.length : Int) := of_decide_eq_true (by first | (with_reducible assumption) | assumption)
                      obtain ⟨ad230, e230, hx230_0, hx230_1, hx230_2, hx230_3⟩ := at_T35 HR0.out (ji19) p230 q230
                      cases e230
                      replace hx230_0 := (HB.out.cell (World.block_lt_of_cell? w _ hx230_0)).trans hx230_0
                      replace hx230_1 := (HB.out.cell (World.block_lt_of_cell? w _ hx230_1)).trans hx230_1
                      replace hx230_2 := (HB.out.cell (World.block_lt_of_cell? w _ hx230_2)).trans hx230_2
                      replace hx230_3 := (HB.out.cell (World.block_lt_of_cell? w _ hx230_3)).trans hx230_3
                      replace p230 := eq_true p230
                      replace q230 := eq_true q230
                      go_wp2
                      go_meet
                      case rel => exact ⟨_, (decide (((rd_T35 l0 (ji19)).f0) > a2)), (by first | rfl | (simp; done) | (simp only [← hji19] <;> (first | rfl | simp)) | (simp [*]; done)), H', ⟨by have := HJ7.out; have := HJ13.out; first | omega | exact Nat.le_refl _⟩, ⟨by (with_reducible repeat (first | apply Kd.R_alloc | apply Kd.R_drewN | apply Kd.R_drew)); exact HO_7.out⟩, ⟨by repeat (first | (with_reducible first | exact HB.out | apply below_alloc | apply pw_below_drewN | apply below_drew1) | exact HB.out)⟩⟩
                    · rw [if_neg c21] at H
                      exact absurd H (by simp)
                  · rw [if_neg c20] at H
                    exact absurd H (by simp)
                · rw [if_neg c18] at H
                  have c18b0 : decide (0 < (l0.length : Int)) = false := decide_eq_false c18
                  have c18b1 : decide (0 < l0.length) = false := decide_eq_false (by omega)
                  clear c18
                  have H' := Aside0.mk H
                  clear H
                  go_wp2
                  go_meet
                  case rel => exact ⟨_, (false), (by first | rfl | (simp; done) | (simp [*]; done)), H', ⟨by have := HJ7.out; have := HJ13.out; first | omega | exact Nat.le_refl _⟩, ⟨by (with_reducible repeat (first | apply Kd.R_alloc | apply Kd.R_drewN | apply Kd.R_drew)); exact HO_7.out⟩, ⟨by repeat (first | (with_reducible first | exact HB.out | apply below_alloc | apply pw_below_drewN | apply below_drew1) | exact HB.out)⟩⟩
              · rw [if_neg c17] at H
                have c17b0 : (x9_13 == 0) = false := beq_eq_false_iff_ne.mpr c17
                have c17b1 : (x9_13 != 0) = true := bne_iff_ne.mpr c17
                (first | rw [c17b0] | (simp only [i64_w, i32_w]; rw [c17b0]) | skip)
                have H' := Aside0.mk H
                clear H
                go_wp2
                go_meet
                case rel => exact ⟨_, (false), (by first | rfl | (simp; done) | (simp [*]; done)), H', ⟨by have := HJ7.out; have := HJ13.out; first | omega | exact Nat.le_refl _⟩, ⟨by (with_reducible repeat (first | apply Kd.R_alloc | apply Kd.R_drewN | apply Kd.R_drew)); exact HO_7.out⟩, ⟨by repeat (first | (with_reducible first | exact HB.out | apply below_alloc | apply pw_below_drewN | apply below_drew1) | exact HB.out)⟩⟩
            case rest =>
              clear HC16
              try clear c1
              try clear c2
              try clear p2
              try clear q2
              try clear hx2
              try clear c5
              try clear p6
              try clear c12
              try clear c12b0
              try clear c12b1
              try clear c13
              try clear c13b0
              try clear c15
              try clear c17
              try clear c17b0
              try clear c17b1
              try clear c18
              try clear c18b0
              try clear c18b1
              try clear c19
              try clear c20
              try clear c20b0
              try clear c21
              try clear c21b0
              try clear hx230_0
              try clear hx230_1
              try clear hx230_2
              try clear hx230_3
              try clear p2
              try clear p230
              try clear q230
              obtain ⟨kq, x55_15, rfl, HA, HJ15, HO_7, HB⟩ := hcut
              cases kq with
              | zero => exact absurd HA.out (by simp [mootlaw4_LedgerCloses.j2])
              | succ kj15 =>
                have H := HA.out
                clear HA
                simp only [mootlaw4_LedgerCloses.j2] at H
                have HC22 := Aside0.mk H
                clear H
                go_upto_if 55 with (fail)
                go_cut [9] (fun v9 wc => ∃ (kq : Nat) (x9_21 : Int), v9 = .int .i64 x9_21 ∧ Aside0 (mootlaw4_LedgerCloses.j3 kq l0 l1 a2 t225 t226 x9_21 = some r) ∧ Aside0 (kq ≤ kj15) ∧ Aside0 (Kd.R k35 35 wc w.heap.size (fun _ => True) v227 t225) ∧ Aside0 (Below w.heap.size w wc))
                case first =>
                  have H := HC22.out
                  clear HC22
                  by_cases c23 : x55_15 = true
                  · subst c23
                    have H1 : (mootlaw4_LedgerCloses.j3 kj15 l0 l1 a2 t225 t226 9) = some r := by rw [if_pos rfl] at H; exact H
                    clear H
                    have H := H1
                    clear H1
                    have H' := Aside0.mk H
                    clear H
                    go_wp2
                    go_meet
                    case rel => exact ⟨_, (9), (by first | rfl | (simp; done) | (simp [*]; done)), H', ⟨by have := HJ7.out; have := HJ13.out; have := HJ15.out; first | omega | exact Nat.le_refl _⟩, ⟨by (with_reducible repeat (first | apply Kd.R_alloc | apply Kd.R_drewN | apply Kd.R_drew)); exact HO_7.out⟩, ⟨by repeat (first | (with_reducible first | exact HB.out | apply below_alloc | apply pw_below_drewN | apply below_drew1) | exact HB.out)⟩⟩
                  · replace c23 := Bool.eq_false_iff.mpr c23
                    subst c23
                    have H1 : (mootlaw4_LedgerCloses.j3 kj15 l0 l1 a2 t225 t226 x9_13) = some r := by rw [if_neg (show ¬ (false = true) by decide)] at H; exact H
                    clear H
                    have H := H1
                    clear H1
                    have H' := Aside0.mk H
                    clear H
                    go_wp2
                    go_meet
                    case rel => exact ⟨_, (x9_13), (by first | rfl | (simp; done) | (simp [*]; done)), H', ⟨by have := HJ7.out; have := HJ13.out; have := HJ15.out; first | omega | exact Nat.le_refl _⟩, ⟨by (with_reducible repeat (first | apply Kd.R_alloc | apply Kd.R_drewN | apply Kd.R_drew)); exact HO_7.out⟩, ⟨by repeat (first | (with_reducible first | exact HB.out | apply below_alloc | apply pw_below_drewN | apply below_drew1) | exact HB.out)⟩⟩
                case rest =>
                  clear HC22
                  try clear c1
                  try clear c2
                  try clear p2
                  try clear q2
                  try clear hx2
                  try clear c5
                  try clear p6
                  try clear c12
                  try clear c12b0
                  try clear c12b1
                  try clear c13
                  try clear c13b0
                  try clear c15
                  try clear c17
                  try clear c17b0
                  try clear c17b1
                  try clear c18
                  try clear c18b0
                  try clear c18b1
                  try clear c19
                  try clear c20
                  try clear c20b0
                  try clear c21
                  try clear c21b0
                  try clear c23
                  try clear p23
                  try clear q23
                  try clear hx23
                  try clear hx230_0
                  try clear hx230_1
                  try clear hx230_2
                  try clear hx230_3
                  try clear p2
                  try clear p230
                  try clear p6
                  try clear q2
                  try clear q230
                  obtain ⟨kq, x9_21, rfl, HA, HJ21, HO_7, HB⟩ := hcut
                  cases kq with
                  | zero => exact absurd HA.out (by simp [mootlaw4_LedgerCloses.j3])
                  | succ kj21 =>
                    have H := HA.out
                    clear HA
                    simp only [mootlaw4_LedgerCloses.j3] at H
                    replace H := Option.bind_eq_some_iff.mp H
                    obtain ⟨t231, A240, H⟩ := H
                    replace H : (mootlaw4_LedgerCloses.l0 kj21 a2 t225 t226 x9_21 t231 l1 (l1.length : Int) 0) = some r := H
                    have A24 := Aside0.mk A240
                    clear A240
                    have H' := Aside0.mk H
                    clear H
                    go_wp2_with (first | ((with_reducible refine gate_callee (f := 18) rfl ?_); refine goesL_ (some 57) rfl rfl Try.func18 (by kernel_rfl) rfl #[.slice A0 l0.length c0] rfl (by (try simp only [List.map_toArray, List.map_cons, List.map_nil]); first | done | rfl | (simp only [List.length_drop, List.length_take]; rfl)) ?_; (with_reducible refine (ledger_Entry_18.calls _ _ l0 t231 _ ?side1 ?side2 A24.out).mono ?_); (case side1 => repeat (first | exact (Kd.C_below HR0.out HB.out) | (with_reducible refine Kd.C_alloc ?_ _) | (with_reducible refine Kd.C_drewN ?_ _) | (with_reducible refine Kd.C_drew ?_))); (case side2 => exact HC0.out); rintro e w25 ⟨v232, rfl, ho0, hb⟩; refine ⟨_, rfl, ?_⟩; have n0_ := Aside0.mk (Kd.R_elder' (by (with_reducible repeat (first | apply Kd.R_alloc | apply Kd.R_drewN | apply Kd.R_drew)); exact HO_7.out) (Kd.R_base ho0) hb); have n1_ := Aside0.mk (Kd.R_lower (Kd.R_new' ho0 (Kd.R_lt (by (with_reducible repeat (first | apply Kd.R_alloc | apply Kd.R_drewN | apply Kd.R_drew)); exact HO_7.out))) (below_size (by repeat (first | (with_reducible first | exact HB.out | apply below_alloc | apply pw_below_drewN | apply below_drew1) | exact HB.out)))); have n2_ := Aside0.mk (below_step (by repeat (first | (with_reducible first | exact HB.out | apply below_alloc | apply pw_below_drewN | apply below_drew1) | exact HB.out)) hb); clear HO_7; clear HB; have HO_7 := n0_; have HO233 := n1_; have HB := n2_; clear n0_ n1_ n2_; (try clear hb); (try clear hb2); (try clear hk); (try clear hi); (try clear ho0)))
                    go_loopg [9, 11, 60] kj21 (fun kq v9 v11 v60 w' => ∃ (x9_5 : Int) (x11_5 : List (S35)) (x60_5 : Int), v9 = .int .i64 x9_5 ∧ v60 = .int .i64 x60_5 ∧ Aside0 (mootlaw4_LedgerCloses.l0 kq a2 t225 t226 x9_5 x11_5 l1 (l1.length : Int) x60_5 = some r) ∧ Aside0 (kq ≤ kj21) ∧ Aside0 (Kd.R k35 35 w' w.heap.size (fun k_ => some k_ ≠ (v11 : Value).ownBlock) v227 t225) ∧ Aside0 (Kd.R k35 35 w' w.heap.size (fun k_ => some k_ ≠ (v227 : Value).ownBlock) v11 x11_5) ∧ Aside0 (Below w.heap.size w w'))
                    case atStart => exact ⟨(x9_21), (t231), (0), (by first | rfl | (simp; done) | (simp [*]; done)), (by first | rfl | (simp; done) | (simp [*]; done)), H', ⟨Nat.le_refl _⟩, ⟨by (with_reducible repeat (first | apply Kd.R_alloc | apply Kd.R_drewN | apply Kd.R_drew)); exact Kd.R_mono HO_7.out (fun _ hk => hk.2)⟩, ⟨by (with_reducible repeat (first | apply Kd.R_alloc | apply Kd.R_drewN | apply Kd.R_drew)); exact Kd.R_mono HO233.out (fun _ hk => hk.2)⟩, ⟨by repeat (first | (with_reducible first | exact HB.out | apply below_alloc | apply pw_below_drewN | apply below_drew1) | exact HB.out)⟩⟩
                    case round =>
                      clear H'
                      try clear c1
                      try clear c2
                      try clear p2
                      try clear q2
                      try clear hx2
                      try clear c5
                      try clear p6
                      try clear c12
                      try clear c12b0
                      try clear c12b1
                      try clear c13
                      try clear c13b0
                      try clear c15
                      try clear c17
                      try clear c17b0
                      try clear c17b1
                      try clear c18
                      try clear c18b0
                      try clear c18b1
                      try clear c19
                      try clear c20
                      try clear c20b0
                      try clear c21
                      try clear c21b0
                      try clear c23
                      try clear p23
                      try clear q23
                      try clear hx23
                      try clear hx230_0
                      try clear hx230_1
                      try clear hx230_2
                      try clear hx230_3
                      try clear p2
                      try clear p23
                      try clear p230
                      try clear p6
                      try clear q2
                      try clear q23
                      try clear q230
                      obtain ⟨x9_5, x11_5, x60_5, rfl, rfl, HA, HK5, HO_7, HO_11, HB⟩ := hrel
                      cases gk with
                      | zero => exact absurd HA.out (by simp [mootlaw4_LedgerCloses.l0])
                      | succ k5 =>
                        have H := HA.out
                        clear HA
                        simp only [mootlaw4_LedgerCloses.l0] at H
                        by_cases c26 : x60_5 < (l1.length : Int)
                        · rw [if_pos c26] at H
                          have c26b0 : decide (x60_5 < (l1.length : Int)) = true := decide_eq_true c26
                          clear c26
                          by_cases c27 : 0 ≤ x60_5
                          · rw [if_pos c27] at H
                            have c27b0 : decide (0 ≤ x60_5) = true := decide_eq_true c27
                            clear c27
                            by_cases c28 : x60_5 < (l1.length : Int)
                            · rw [if_pos c28] at H
                              have c28b0 : decide (x60_5 < (l1.length : Int)) = true := decide_eq_true c28
                              clear c28
                              by_cases c29 : x9_5 = 0
                              · rw [if_pos c29] at H
                                have c29b0 : (x9_5 == 0) = true := beq_iff_eq.mpr c29
                                have c29b1 : (x9_5 != 0) = false := bne_eq_false_iff_eq.mpr c29
                                clear c29
                                by_cases c30 : (rd l1 x60_5) = 0
                                · rw [if_pos c30] at H
                                  have c30b0 : ((rd l1 x60_5) == 0) = true := beq_iff_eq.mpr c30
                                  have c30b1 : ((rd l1 x60_5) != 0) = false := bne_eq_false_iff_eq.mpr c30
                                  clear c30
                                  have H' := Aside0.mk H
                                  clear H
                                  have p235 : 0 ≤ (x60_5 : Int) := of_decide_eq_true (by first | (with_reducible assumption) | assumption)
                                  have q235 : x60_5 < (l1.length : Int) := of_decide_eq_true (by first | (with_reducible assumption) | assumption)
                                  obtain ⟨ad235, e235, hx235_0⟩ := Kd.at_int HR1.out x60_5 p235 q235
                                  cases e235
                                  replace hx235_0 := (HB.out.cell (World.block_lt_of_cell? w _ hx235_0)).trans hx235_0
                                  replace p235 := eq_true p235
                                  replace q235 := eq_true q235
                                  go_wp2
                                  go_roundg k5
                                  case measure => have := HJ7.out; have := HJ13.out; have := HJ15.out; have := HJ21.out; have := HK5.out; omega
                                  case rel => exact ⟨(19), (x11_5), (wrap64 (x60_5 + 1)), (by first | rfl | (simp; done) | (simp [*]; done)), (by first | rfl | (simp; done) | (simp [*]; done)), H', ⟨by have := HJ7.out; have := HJ13.out; have := HJ15.out; have := HJ21.out; have := HK5.out; omega⟩, ⟨by (with_reducible repeat (first | apply Kd.R_alloc | apply Kd.R_drewN | apply Kd.R_drew)); exact HO_7.out⟩, ⟨by (with_reducible repeat (first | apply Kd.R_alloc | apply Kd.R_drewN | apply Kd.R_drew)); exact HO_11.out⟩, ⟨by repeat (first | (with_reducible first | exact HB.out | apply below_alloc | apply pw_below_drewN | apply below_drew1) | exact HB.out)⟩⟩
                                · rw [if_neg c30] at H
                                  have c30b0 : ((rd l1 x60_5) == 0) = false := beq_eq_false_iff_ne.mpr c30
                                  have c30b1 : ((rd l1 x60_5) != 0) = true := bne_iff_ne.mpr c30
                                  by_cases c31 : (rd l1 x60_5) < 0
                                  · rw [if_pos c31] at H
                                    have c31b0 : decide ((rd l1 x60_5) < 0) = true := decide_eq_true c31
                                    clear c31
                                    have H' := Aside0.mk H
                                    clear H
                                    have p235 : 0 ≤ (x60_5 : Int) := of_decide_eq_true (by first | (with_reducible assumption) | assumption)
                                    have q235 : x60_5 < (l1.length : Int) := of_decide_eq_true (by first | (with_reducible assumption) | assumption)
                                    obtain ⟨ad235, e235, hx235_0⟩ := Kd.at_int HR1.out x60_5 p235 q235
                                    cases e235
                                    replace hx235_0 := (HB.out.cell (World.block_lt_of_cell? w _ hx235_0)).trans hx235_0
                                    replace p235 := eq_true p235
                                    replace q235 := eq_true q235
                                    go_wp2
                                    go_roundg k5
                                    case measure => have := HJ7.out; have := HJ13.out; have := HJ15.out; have := HJ21.out; have := HK5.out; omega
                                    case rel => exact ⟨(1), (x11_5), (wrap64 (x60_5 + 1)), (by first | rfl | (simp; done) | (simp [*]; done)), (by first | rfl | (simp; done) | (simp [*]; done)), H', ⟨by have := HJ7.out; have := HJ13.out; have := HJ15.out; have := HJ21.out; have := HK5.out; omega⟩, ⟨by (with_reducible repeat (first | apply Kd.R_alloc | apply Kd.R_drewN | apply Kd.R_drew)); exact HO_7.out⟩, ⟨by (with_reducible repeat (first | apply Kd.R_alloc | apply Kd.R_drewN | apply Kd.R_drew)); exact HO_11.out⟩, ⟨by repeat (first | (with_reducible first | exact HB.out | apply below_alloc | apply pw_below_drewN | apply below_drew1) | exact HB.out)⟩⟩
                                  · rw [if_neg c31] at H
                                    have c31b0 : decide ((rd l1 x60_5) < 0) = false := decide_eq_false c31
                                    clear c31
                                    by_cases c32 : (rd l1 x60_5) > 99
                                    · rw [if_pos c32] at H
                                      have c32b0 : decide (99 < (rd l1 x60_5)) = true := decide_eq_true c32
                                      clear c32
                                      have H' := Aside0.mk H
                                      clear H
                                      have p235 : 0 ≤ (x60_5 : Int) := of_decide_eq_true (by first | (with_reducible assumption) | assumption)
                                      have q235 : x60_5 < (l1.length : Int) := of_decide_eq_true (by first | (with_reducible assumption) | assumption)
                                      obtain ⟨ad235, e235, hx235_0⟩ := Kd.at_int HR1.out x60_5 p235 q235
                                      cases e235
                                      replace hx235_0 := (HB.out.cell (World.block_lt_of_cell? w _ hx235_0)).trans hx235_0
                                      replace p235 := eq_true p235
                                      replace q235 := eq_true q235
                                      go_wp2
                                      go_roundg k5
                                      case measure => have := HJ7.out; have := HJ13.out; have := HJ15.out; have := HJ21.out; have := HK5.out; omega
                                      case rel => exact ⟨(1), (x11_5), (wrap64 (x60_5 + 1)), (by first | rfl | (simp; done) | (simp [*]; done)), (by first | rfl | (simp; done) | (simp [*]; done)), H', ⟨by have := HJ7.out; have := HJ13.out; have := HJ15.out; have := HJ21.out; have := HK5.out; omega⟩, ⟨by (with_reducible repeat (first | apply Kd.R_alloc | apply Kd.R_drewN | apply Kd.R_drew)); exact HO_7.out⟩, ⟨by (with_reducible repeat (first | apply Kd.R_alloc | apply Kd.R_drewN | apply Kd.R_drew)); exact HO_11.out⟩, ⟨by repeat (first | (with_reducible first | exact HB.out | apply below_alloc | apply pw_below_drewN | apply below_drew1) | exact HB.out)⟩⟩
                                    · rw [if_neg c32] at H
                                      have c32b0 : decide (99 < (rd l1 x60_5)) = false := decide_eq_false c32
                                      clear c32
                                      replace H := Option.bind_eq_some_iff.mp H
                                      obtain ⟨⟨t236, t237⟩, A330, H⟩ := H
                                      replace H : (mootlaw4_LedgerCloses.l1 k5 a2 t225 t226 x9_5 x11_5 (rd l1 x60_5) t236 t237 l1 (l1.length : Int) x60_5) = some r := H
                                      have A33 := Aside0.mk A330
                                      clear A330
                                      have H' := Aside0.mk H
                                      clear H
                                      have p235 : 0 ≤ (x60_5 : Int) := of_decide_eq_true (by first | (with_reducible assumption) | assumption)
                                      have q235 : x60_5 < (l1.length : Int) := of_decide_eq_true (by first | (with_reducible assumption) | assumption)
                                      obtain ⟨ad235, e235, hx235_0⟩ := Kd.at_int HR1.out x60_5 p235 q235
                                      cases e235
                                      replace hx235_0 := (HB.out.cell (World.block_lt_of_cell? w _ hx235_0)).trans hx235_0
                                      replace p235 := eq_true p235
                                      replace q235 := eq_true q235
                                      obtain ⟨Ao34, co34, eo34⟩ := Kd.R_slice HO_11.out
                                      subst eo34
                                      go_wp2_with (first | ((with_reducible refine gate_callee (f := 22) rfl ?_); refine goesL_ (some 80) rfl rfl Try.func22 (by kernel_rfl) rfl #[.slice Ao34 x11_5.length co34, .int .i64 (rd l1 x60_5), .func (.func 23) #[] #[]] rfl (by (try simp only [List.map_toArray, List.map_cons, List.map_nil]); first | done | rfl | (simp only [List.length_drop, List.length_take]; rfl)) ?_; (with_reducible refine (mootlaw4_moved.calls k5 _ _ x11_5 (rd l1 x60_5)  t236 t237 _ ?side1 ?side2 A33.out).mono ?_); (case side1 => repeat (first | exact (Kd.R_reads' HO_11.out).2.2 | (with_reducible refine Kd.C_alloc ?_ _) | (with_reducible refine Kd.C_drewN ?_ _) | (with_reducible refine Kd.C_drew ?_))); (case side2 => exact (Kd.R_reads' HO_11.out).2.1); rintro e w' ⟨rfl, ⟨nd, rfl⟩⟩; refine ⟨_, rfl, ?_⟩))
                                      go_loopg [9, 11, 14, 15] k5 (fun kq v9 v11 v14 v15 w' => ∃ (x9_6 : Int) (x11_6 : List (S35)) (x14_6 : Int) (x15_6 : Int), v9 = .int .i64 x9_6 ∧ v14 = .int .i64 x14_6 ∧ v15 = .int .i64 x15_6 ∧ Aside0 (mootlaw4_LedgerCloses.l1 kq a2 t225 t226 x9_6 x11_6 (rd l1 x60_5) x14_6 x15_6 l1 (l1.length : Int) x60_5 = some r) ∧ Aside0 (kq ≤ k5) ∧ Aside0 (Kd.R k35 35 w' w.heap.size (fun k_ => some k_ ≠ (v11 : Value).ownBlock) v227 t225) ∧ Aside0 (Kd.R k35 35 w' w.heap.size (fun k_ => some k_ ≠ (v227 : Value).ownBlock) v11 x11_6) ∧ Aside0 (Below w.heap.size w w'))
                                      case atStart => exact ⟨(x9_5), (x11_5), (t236), (t237), (by first | rfl | (simp; done) | (simp [*]; done)), (by first | rfl | (simp; done) | (simp [*]; done)), (by first | rfl | (simp; done) | (simp [*]; done)), H', ⟨Nat.le_refl _⟩, ⟨by (with_reducible repeat (first | apply Kd.R_alloc | apply Kd.R_drewN | apply Kd.R_drew)); exact HO_7.out⟩, ⟨by (with_reducible repeat (first | apply Kd.R_alloc | apply Kd.R_drewN | apply Kd.R_drew)); exact HO_11.out⟩, ⟨by repeat (first | (with_reducible first | exact HB.out | apply below_alloc | apply pw_below_drewN | apply below_drew1) | exact HB.out)⟩⟩
                                      case round =>
                                        clear H'
                                        try clear c1
                                        try clear c2
                                        try clear p2
                                        try clear q2
                                        try clear hx2
                                        try clear c3
                                        try clear c5
                                        try clear p6
                                        try clear c12
                                        try clear c12b0
                                        try clear c12b1
                                        try clear c13
                                        try clear c13b0
                                        try clear c15
                                        try clear c17
                                        try clear c17b0
                                        try clear c17b1
                                        try clear c18
                                        try clear c18b0
                                        try clear c18b1
                                        try clear c19
                                        try clear c20
                                        try clear c20b0
                                        try clear c21
                                        try clear c21b0
                                        try clear c22
                                        try clear c23
                                        try clear p23
                                        try clear q23
                                        try clear hx23
                                        try clear c26
                                        try clear c26b0
                                        try clear c27
                                        try clear c27b0
                                        try clear c28
                                        try clear c28b0
                                        try clear c29
                                        try clear c29b0
                                        try clear c29b1
                                        try clear c30
                                        try clear c30b0
                                        try clear c30b1
                                        try clear c31
                                        try clear c31b0
                                        try clear c32
                                        try clear c32b0
                                        try clear hx230_0
                                        try clear hx230_1
                                        try clear hx230_2
                                        try clear hx230_3
                                        try clear hx235_0
                                        try clear p2
                                        try clear p23
                                        try clear p230
                                        try clear p235
                                        try clear p6
                                        try clear q2
                                        try clear q23
                                        try clear q230
                                        try clear q235
                                        obtain ⟨x9_6, x11_6, x14_6, x15_6, rfl, rfl, rfl, HA, HK6, HO_7, HO_11, HB⟩ := hrel
                                        cases gk with
                                        | zero => exact absurd HA.out (by simp [mootlaw4_LedgerCloses.l1])
                                        | succ k6 =>
                                          have H := HA.out
                                          clear HA
                                          simp only [mootlaw4_LedgerCloses.l1] at H
                                          have HC35 := Aside0.mk H
                                          clear H
                                          go_upto_region 20 with (fail)
                                          go_cut [89] (fun v89 wc => ∃ (kq : Nat) (x89_34 : Bool), v89 = .bool x89_34 ∧ Aside0 (mootlaw4_LedgerCloses.j6 kq a2 t225 t226 x9_6 x11_6 (rd l1 x60_5) x14_6 x15_6 l1 (l1.length : Int) x60_5 x89_34 = some r) ∧ Aside0 (kq ≤ k6) ∧ Aside0 (Kd.R k35 35 wc w.heap.size (fun k_ => some k_ ≠ (u11 : Value).ownBlock) v227 t225) ∧ Aside0 (Kd.R k35 35 wc w.heap.size (fun k_ => some k_ ≠ (v227 : Value).ownBlock) u11 x11_6) ∧ Aside0 (Below w.heap.size w wc))
                                          case first =>
                                            have H := HC35.out
                                            clear HC35
                                            by_cases c36 : x14_6 = x15_6
                                            · rw [if_pos c36] at H
                                              have c36b0 : (x14_6 == x15_6) = true := beq_iff_eq.mpr c36
                                              have c36b1 : (x14_6 != x15_6) = false := bne_eq_false_iff_eq.mpr c36
                                              clear c36
                                              (first | rw [c36b0] | (simp only [i64_w, i32_w]; rw [c36b0]) | skip)
                                              have H' := Aside0.mk H
                                              clear H
                                              go_wp2
                                              go_meet
                                              case rel => exact ⟨_, (false), (by first | rfl | (simp; done) | (simp [*]; done)), H', ⟨by have := HJ7.out; have := HJ13.out; have := HJ15.out; have := HJ21.out; have := HK5.out; have := HK6.out; first | omega | exact Nat.le_refl _⟩, ⟨by (with_reducible repeat (first | apply Kd.R_alloc | apply Kd.R_drewN | apply Kd.R_drew)); exact HO_7.out⟩, ⟨by (with_reducible repeat (first | apply Kd.R_alloc | apply Kd.R_drewN | apply Kd.R_drew)); exact HO_11.out⟩, ⟨by repeat (first | (with_reducible first | exact HB.out | apply below_alloc | apply pw_below_drewN | apply below_drew1) | exact HB.out)⟩⟩
                                            · rw [if_neg c36] at H
                                              have c36b0 : (x14_6 == x15_6) = false := beq_eq_false_iff_ne.mpr c36
                                              have c36b1 : (x14_6 != x15_6) = true := bne_iff_ne.mpr c36
                                              (first | rw [c36b0] | (simp only [i64_w, i32_w]; rw [c36b0]) | skip)
                                              have H' := Aside0.mk H
                                              clear H
                                              go_wp2
                                              go_meet
                                              case rel => exact ⟨_, ((x9_6 == 0)), (by first | rfl | (simp; done) | (simp [*]; done)), H', ⟨by have := HJ7.out; have := HJ13.out; have := HJ15.out; have := HJ21.out; have := HK5.out; have := HK6.out; first | omega | exact Nat.le_refl _⟩, ⟨by (with_reducible repeat (first | apply Kd.R_alloc | apply Kd.R_drewN | apply Kd.R_drew)); exact HO_7.out⟩, ⟨by (with_reducible repeat (first | apply Kd.R_alloc | apply Kd.R_drewN | apply Kd.R_drew)); exact HO_11.out⟩, ⟨by repeat (first | (with_reducible first | exact HB.out | apply below_alloc | apply pw_below_drewN | apply below_drew1) | exact HB.out)⟩⟩
                                          case rest =>
                                            clear HC35
                                            try clear c1
                                            try clear c2
                                            try clear p2
                                            try clear q2
                                            try clear hx2
                                            try clear c3
                                            try clear c5
                                            try clear p6
                                            try clear c12
                                            try clear c12b0
                                            try clear c12b1
                                            try clear c13
                                            try clear c13b0
                                            try clear c15
                                            try clear c17
                                            try clear c17b0
                                            try clear c17b1
                                            try clear c18
                                            try clear c18b0
                                            try clear c18b1
                                            try clear c19
                                            try clear c20
                                            try clear c20b0
                                            try clear c21
                                            try clear c21b0
                                            try clear c22
                                            try clear c23
                                            try clear p23
                                            try clear q23
                                            try clear hx23
                                            try clear c26
                                            try clear c26b0
                                            try clear c27
                                            try clear c27b0
                                            try clear c28
                                            try clear c28b0
                                            try clear c29
                                            try clear c29b0
                                            try clear c29b1
                                            try clear c30
                                            try clear c30b0
                                            try clear c30b1
                                            try clear c31
                                            try clear c31b0
                                            try clear c32
                                            try clear c32b0
                                            try clear c36
                                            try clear c36b0
                                            try clear c36b1
                                            try clear hx230_0
                                            try clear hx230_1
                                            try clear hx230_2
                                            try clear hx230_3
                                            try clear hx235_0
                                            try clear p2
                                            try clear p23
                                            try clear p230
                                            try clear p235
                                            try clear p6
                                            try clear q2
                                            try clear q23
                                            try clear q230
                                            try clear q235
                                            obtain ⟨kq, x89_34, rfl, HA, HJ34, HO_7, HO_11, HB⟩ := hcut
                                            cases kq with
                                            | zero => exact absurd HA.out (by simp [mootlaw4_LedgerCloses.j6])
                                            | succ kj34 =>
                                              have H := HA.out
                                              clear HA
                                              simp only [mootlaw4_LedgerCloses.j6] at H
                                              by_cases c37 : x89_34 = true
                                              · subst c37
                                                have H1 : (if x14_6 < x15_6 then (if x11_6.length < 4398046511104 then ((some (x11_6 ++ [(⟨a2, 0, (rd l1 x60_5), mn (mx (wrap64 (x14_6 - x15_6)) (wrap64 (x15_6 - x14_6))) 1099511627776⟩ : S35)] : List (S35))).bind fun y239 => ((mootlaw4_ledgerFault.f kj34 y239).bind fun t242 => (mootlaw4_LedgerCloses.l1 kj34 a2 t225 t226 t242 y239 (rd l1 x60_5) (wrap64 (x14_6 + (mn (mx (wrap64 (x14_6 - x15_6)) (wrap64 (x15_6 - x14_6))) 1099511627776))) x15_6 l1 (l1.length : Int) x60_5))) else (none)) else (if x11_6.length < 4398046511104 then ((some (x11_6 ++ [(⟨a2, (rd l1 x60_5), 0, mn (mx (wrap64 (x14_6 - x15_6)) (wrap64 (x15_6 - x14_6))) 1099511627776⟩ : S35)] : List (S35))).bind fun y243 => ((mootlaw4_ledgerFault.f kj34 y243).bind fun t246 => (mootlaw4_LedgerCloses.l1 kj34 a2 t225 t226 t246 y243 (rd l1 x60_5) x14_6 (wrap64 (x15_6 + (mn (mx (wrap64 (x14_6 - x15_6)) (wrap64 (x15_6 - x14_6))) 1099511627776))) l1 (l1.length : Int) x60_5))) else (none))) = some r := by rw [if_pos rfl] at H; exact H
                                                clear H
                                                have H := H1
                                                clear H1
                                                obtain ⟨ji38, hji38⟩ : ∃ j_ : Int, (mx (wrap64 (x14_6 - x15_6)) (wrap64 (x15_6 - x14_6))) = j_ := ⟨_, rfl⟩
                                                replace H : (if x14_6 < x15_6 then (if x11_6.length < 4398046511104 then ((some (x11_6 ++ [(⟨a2, 0, (rd l1 x60_5), mn (ji38) 1099511627776⟩ : S35)] : List (S35))).bind fun y239 => ((mootlaw4_ledgerFault.f kj34 y239).bind fun t242 => (mootlaw4_LedgerCloses.l1 kj34 a2 t225 t226 t242 y239 (rd l1 x60_5) (wrap64 (x14_6 + (mn (ji38) 1099511627776))) x15_6 l1 (l1.length : Int) x60_5))) else (none)) else (if x11_6.length < 4398046511104 then ((some (x11_6 ++ [(⟨a2, (rd l1 x60_5), 0, mn (ji38) 1099511627776⟩ : S35)] : List (S35))).bind fun y243 => ((mootlaw4_ledgerFault.f kj34 y243).bind fun t246 => (mootlaw4_LedgerCloses.l1 kj34 a2 t225 t226 t246 y243 (rd l1 x60_5) x14_6 (wrap64 (x15_6 + (mn (ji38) 1099511627776))) l1 (l1.length : Int) x60_5))) else (none))) = some r := by first | (rw [hji38] at H; exact H) | (simp only [hji38] at H ⊢; exact H)
                                                have hji38_ : (if (wrap64 (x14_6 - x15_6)) < (wrap64 (x15_6 - x14_6)) then (wrap64 (x15_6 - x14_6)) else (wrap64 (x14_6 - x15_6))) = ji38 := hji38
                                                obtain ⟨ji39, hji39⟩ : ∃ j_ : Int, (mn (ji38) 1099511627776) = j_ := ⟨_, rfl⟩
                                                replace H : (if x14_6 < x15_6 then (if x11_6.length < 4398046511104 then ((some (x11_6 ++ [(⟨a2, 0, (rd l1 x60_5), ji39⟩ : S35)] : List (S35))).bind fun y239 => ((mootlaw4_ledgerFault.f kj34 y239).bind fun t242 => (mootlaw4_LedgerCloses.l1 kj34 a2 t225 t226 t242 y239 (rd l1 x60_5) (wrap64 (x14_6 + (ji39))) x15_6 l1 (l1.length : Int) x60_5))) else (none)) else (if x11_6.length < 4398046511104 then ((some (x11_6 ++ [(⟨a2, (rd l1 x60_5), 0, ji39⟩ : S35)] : List (S35))).bind fun y243 => ((mootlaw4_ledgerFault.f kj34 y243).bind fun t246 => (mootlaw4_LedgerCloses.l1 kj34 a2 t225 t226 t246 y243 (rd l1 x60_5) x14_6 (wrap64 (x15_6 + (ji39))) l1 (l1.length : Int) x60_5))) else (none))) = some r := by first | (rw [hji39] at H; exact H) | (simp only [hji39] at H ⊢; exact H)
                                                have hji39_ : (if 1099511627776 < (ji38) then 1099511627776 else (ji38)) = ji39 := hji39
                                                by_cases c40 : x14_6 < x15_6
                                                · rw [if_pos c40] at H
                                                  have c40b0 : decide (x14_6 < x15_6) = true := decide_eq_true c40
                                                  clear c40
                                                  by_cases c41 : x11_6.length < 4398046511104
                                                  · rw [if_pos c41] at H
                                                    have LMc41 := Aside0.mk c41
                                                    clear c41
                                                    obtain ⟨y239, hy239⟩ : ∃ y_ : List (S35), y_ = (x11_6 ++ [(⟨a2, 0, (rd l1 x60_5), ji39⟩ : S35)]) := ⟨_, rfl⟩
                                                    replace H : ((mootlaw4_ledgerFault.f kj34 y239).bind fun t242 => (mootlaw4_LedgerCloses.l1 kj34 a2 t225 t226 t242 y239 (rd l1 x60_5) (wrap64 (x14_6 + (ji39))) x15_6 l1 (l1.length : Int) x60_5)) = some r := by first | (rw [hy239]; with_reducible exact H) | (have H2_ := (Option.bind_some _ _).symm.trans H; rw [hy239]; with_reducible exact H2_) | (have H2_ := (Option.bind_some _ _).symm.trans H; with_reducible exact H2_) | with_reducible exact H | (rw [hy239]; exact H) | exact H
                                                    have Ny239 := Aside0.mk hy239
                                                    clear hy239
                                                    replace H := Option.bind_eq_some_iff.mp H
                                                    obtain ⟨t242, A420, H⟩ := H
                                                    replace H : (mootlaw4_LedgerCloses.l1 kj34 a2 t225 t226 t242 y239 (rd l1 x60_5) (wrap64 (x14_6 + (ji39))) x15_6 l1 (l1.length : Int) x60_5) = some r := H
                                                    have A42 := Aside0.mk A420
                                                    clear A420
                                                    have H' := Aside0.mk H
                                                    clear H
                                                    go_wp2_with (first | ((with_reducible refine gate_dst (N := 16) rfl ?_); (try (refine gate_guard (by rfl) ?_; dsimp only)); refine box_event ?hg (N := 16) ?hd (cs := #[.int .i64 0, .int .i64 0, .int .i64 0, .int .i64 0]) (t := 35) ?hr ?_; (case hd => rfl); (case hg => rfl); (case hr => first | (go_simp; done) | (go_simp; rfl)); intro gb238 hg w43 hbox hb; have n0_ := Aside0.mk (Kd.R_below (Kd.R_elderB (by (with_reducible repeat (first | apply Kd.R_alloc | apply Kd.R_drewN | apply Kd.R_drew)); exact HO_7.out) gb238 (Nat.le_of_eq hg.symm)) hb); have n1_ := Aside0.mk (Kd.R_below (Kd.R_elderB (by (with_reducible repeat (first | apply Kd.R_alloc | apply Kd.R_drewN | apply Kd.R_drew)); exact HO_11.out) gb238 (Nat.le_of_eq hg.symm)) hb); have n2_ := Aside0.mk (below_step (by repeat (first | (with_reducible first | exact HB.out | apply below_alloc | apply pw_below_drewN | apply below_drew1) | exact HB.out)) hb); have n3_ := Aside0.mk (hbox); have n4_ := Aside0.mk ((by rw [hg]; exact (below_size (by repeat (first | (with_reducible first | exact HB.out | apply below_alloc | apply pw_below_drewN | apply below_drew1) | exact HB.out))) : w.heap.size ≤ gb238)); have n5_ := Aside0.mk ((by rw [hg]; exact (below_size (by repeat (first | (with_reducible first | exact HB.out | apply below_alloc | apply pw_below_drewN | apply below_drew1) | exact HB.out))) : w.heap.size ≤ gb238)); clear HO_7; clear HO_11; clear HB; have HO_7 := n0_; have HO_11 := n1_; have HB := n2_; have BK238 := n3_; have GW238 := n4_; have GE238 := n5_; clear n0_ n1_ n2_ n3_ n4_ n5_; clear hb hbox hg; have hcz44_0 : w43.cell? ⟨gb238, 0, none⟩ = some (.int .i64 0) := (blk_cell BK238.out 0).trans rfl; have hcz44_1 : w43.cell? ⟨gb238, 1, none⟩ = some (.int .i64 0) := (blk_cell BK238.out 1).trans rfl; have hcz44_2 : w43.cell? ⟨gb238, 2, none⟩ = some (.int .i64 0) := (blk_cell BK238.out 2).trans rfl; have hcz44_3 : w43.cell? ⟨gb238, 3, none⟩ = some (.int .i64 0) := (blk_cell BK238.out 3).trans rfl; have hdz44_1 : ∀ a0_, (w43.setCell ⟨gb238, 0, none⟩ a0_).cell? ⟨gb238, 1, none⟩ = some (.int .i64 0) := (by intro a0_; go_simp); have hdz44_2 : ∀ a0_ a1_, ((w43.setCell ⟨gb238, 0, none⟩ a0_).setCell ⟨gb238, 1, none⟩ a1_).cell? ⟨gb238, 2, none⟩ = some (.int .i64 0) := (by intro a0_ a1_; go_simp); have hdz44_3 : ∀ a0_ a1_ a2_, (((w43.setCell ⟨gb238, 0, none⟩ a0_).setCell ⟨gb238, 1, none⟩ a1_).setCell ⟨gb238, 2, none⟩ a2_).cell? ⟨gb238, 3, none⟩ = some (.int .i64 0) := (by intro a0_ a1_ a2_; go_simp); have hfz44_0 := blk_frozen BK238.out 0; have hfz44_1 := blk_frozen BK238.out 1; have hfz44_2 := blk_frozen BK238.out 2; have hfz44_3 := blk_frozen BK238.out 3) | ((with_reducible refine gate_builtin (b := .append) (xs := #[.tmp 115, .tmp 117]) rfl ?_); (try (refine gate_guard (by rfl) ?_; dsimp only)); at_builtin; refine Kd.R_append k35 (w0 := w) w.heap.size rfl (.tmp 115) (.tmp 117) 24 35 (.agg #[(.int .i64 0), (.int .i64 0), (.int .i64 0), (.int .i64 0)]) 32 rfl Try.underlying24 info35 rfl (by decide) (by omega) u11 x11_6 (⟨a2, 0, (rd l1 x60_5), ji39⟩ : S35) [.int .i64 a2, .int .i64 0, .int .i64 (rd l1 x60_5), .int .i64 ji39] (fun k_ => some k_ ≠ (v227 : Value).ownBlock ∧ k_ ≠ gb238) (fun _ => False) rfl (by first | (go_simp; done) | (go_simp; rfl)) ?aP (fun _ hk => hk.elim) ?aF ?aO ?aB ?aS ?aL ?_; (case aP => exact k35_mkM _ _ _ (⟨a2, 0, (rd l1 x60_5), ji39⟩ : S35)); (case aB => exact (by repeat (first | (with_reducible first | exact HB.out | apply below_alloc | apply pw_below_drewN | apply below_drew1 | refine below_set ?_ GE238.out) | exact HB.out))); (case aF => exact (fun k_ hk => ⟨Kd.fresh' (Kd.R_lt (by (with_reducible repeat (first | apply Kd.R_alloc | apply Kd.R_drewN | apply Kd.R_drew)); exact (Kd.R_mono (Kd.R_far (p := ⟨gb238, 2, none⟩) (Kd.R_far (p := ⟨gb238, 1, none⟩) (Kd.R_far (p := ⟨gb238, 3, none⟩) (Kd.R_far (p := ⟨gb238, 2, none⟩) (Kd.R_far (p := ⟨gb238, 1, none⟩) (Kd.R_far (p := ⟨gb238, 0, none⟩) (Kd.R_mono HO_7.out (fun k_ hk => (⟨hk, hk.2⟩ : _ ∧ k_ ≠ gb238))) (fun _ hk => hk.2) (.int .i64 a2)) (fun _ hk => hk.2) (.int .i64 (rd l1 x60_5))) (fun _ hk => hk.2) (.int .i64 0)) (fun _ hk => hk.2) (.int .i64 ji39)) (fun _ hk => hk.2) (.int .i64 0)) (fun _ hk => hk.2) (.int .i64 (rd l1 x60_5))) (fun _ h_ => h_.1)))) k_ hk, Kd.freshB (g := gb238) (o := .cells #[.int .i64 a2, .int .i64 0, .int .i64 (rd l1 x60_5), .int .i64 ji39] 35 (0, 0)) (by (with_reducible repeat (first | refine blk_drewN ?_ _ | refine blk_drew ?_ | refine blk_alloc ?_ _)); refine blk_put (cs := #[.int .i64 a2, .int .i64 0, .int .i64 0, .int .i64 ji39]) ?_ 2 _ rfl; (with_reducible repeat (first | refine blk_drewN ?_ _ | refine blk_drew ?_ | refine blk_alloc ?_ _)); refine blk_put (cs := #[.int .i64 a2, .int .i64 (rd l1 x60_5), .int .i64 0, .int .i64 ji39]) ?_ 1 _ rfl; (with_reducible repeat (first | refine blk_drewN ?_ _ | refine blk_drew ?_ | refine blk_alloc ?_ _)); refine blk_put (cs := #[.int .i64 a2, .int .i64 (rd l1 x60_5), .int .i64 0, .int .i64 0]) ?_ 3 _ rfl; (with_reducible repeat (first | refine blk_drewN ?_ _ | refine blk_drew ?_ | refine blk_alloc ?_ _)); refine blk_put (cs := #[.int .i64 a2, .int .i64 (rd l1 x60_5), .int .i64 0, .int .i64 0]) ?_ 2 _ rfl; (with_reducible repeat (first | refine blk_drewN ?_ _ | refine blk_drew ?_ | refine blk_alloc ?_ _)); refine blk_put (cs := #[.int .i64 a2, .int .i64 0, .int .i64 0, .int .i64 0]) ?_ 1 _ rfl; (with_reducible repeat (first | refine blk_drewN ?_ _ | refine blk_drew ?_ | refine blk_alloc ?_ _)); refine blk_put (cs := #[.int .i64 0, .int .i64 0, .int .i64 0, .int .i64 0]) ?_ 0 _ rfl; (with_reducible repeat (first | refine blk_drewN ?_ _ | refine blk_drew ?_ | refine blk_alloc ?_ _)); exact BK238.out) k_ hk⟩)); (case aO => exact (by (with_reducible repeat (first | apply Kd.R_alloc | apply Kd.R_drewN | apply Kd.R_drew)); exact Kd.R_mono (Kd.R_far (p := ⟨gb238, 2, none⟩) (Kd.R_far (p := ⟨gb238, 1, none⟩) (Kd.R_far (p := ⟨gb238, 3, none⟩) (Kd.R_far (p := ⟨gb238, 2, none⟩) (Kd.R_far (p := ⟨gb238, 1, none⟩) (Kd.R_far (p := ⟨gb238, 0, none⟩) (Kd.R_mono HO_11.out (fun k_ hk => (⟨hk, hk.2⟩ : _ ∧ k_ ≠ gb238))) (fun _ hk => hk.2) (.int .i64 a2)) (fun _ hk => hk.2) (.int .i64 (rd l1 x60_5))) (fun _ hk => hk.2) (.int .i64 0)) (fun _ hk => hk.2) (.int .i64 ji39)) (fun _ hk => hk.2) (.int .i64 0)) (fun _ hk => hk.2) (.int .i64 (rd l1 x60_5))) (fun _ hk => ⟨hk.1.1, hk.1.2⟩))); (case aS => exact (below_size (by repeat (first | (with_reducible first | exact HB.out | apply below_alloc | apply pw_below_drewN | apply below_drew1 | refine below_set ?_ GE238.out) | exact HB.out)))); (case aL => have := LMc41.out; omega); intro v240 w45 ho hb hg hat; rw [← Ny239.out] at ho; have n0_ := Aside0.mk (Kd.R_after (ok := (fun k_ => k_ ≠ gb238)) (by (with_reducible repeat (first | apply Kd.R_alloc | apply Kd.R_drewN | apply Kd.R_drew)); exact Kd.R_mono (Kd.R_far (p := ⟨gb238, 2, none⟩) (Kd.R_far (p := ⟨gb238, 1, none⟩) (Kd.R_far (p := ⟨gb238, 3, none⟩) (Kd.R_far (p := ⟨gb238, 2, none⟩) (Kd.R_far (p := ⟨gb238, 1, none⟩) (Kd.R_far (p := ⟨gb238, 0, none⟩) (Kd.R_mono HO_7.out (fun k_ hk => (⟨hk, hk.2⟩ : _ ∧ k_ ≠ gb238))) (fun _ hk => hk.2) (.int .i64 a2)) (fun _ hk => hk.2) (.int .i64 (rd l1 x60_5))) (fun _ hk => hk.2) (.int .i64 0)) (fun _ hk => hk.2) (.int .i64 ji39)) (fun _ hk => hk.2) (.int .i64 0)) (fun _ hk => hk.2) (.int .i64 (rd l1 x60_5))) (fun _ hk => ⟨hk.1.2, hk.1.1⟩)) hg hat); have n1_ := Aside0.mk (blk_grown (g := gb238) (o := .cells #[.int .i64 a2, .int .i64 0, .int .i64 (rd l1 x60_5), .int .i64 ji39] 35 (0, 0)) (by (with_reducible repeat (first | refine blk_drewN ?_ _ | refine blk_drew ?_ | refine blk_alloc ?_ _)); refine blk_put (cs := #[.int .i64 a2, .int .i64 0, .int .i64 0, .int .i64 ji39]) ?_ 2 _ rfl; (with_reducible repeat (first | refine blk_drewN ?_ _ | refine blk_drew ?_ | refine blk_alloc ?_ _)); refine blk_put (cs := #[.int .i64 a2, .int .i64 (rd l1 x60_5), .int .i64 0, .int .i64 ji39]) ?_ 1 _ rfl; (with_reducible repeat (first | refine blk_drewN ?_ _ | refine blk_drew ?_ | refine blk_alloc ?_ _)); refine blk_put (cs := #[.int .i64 a2, .int .i64 (rd l1 x60_5), .int .i64 0, .int .i64 0]) ?_ 3 _ rfl; (with_reducible repeat (first | refine blk_drewN ?_ _ | refine blk_drew ?_ | refine blk_alloc ?_ _)); refine blk_put (cs := #[.int .i64 a2, .int .i64 (rd l1 x60_5), .int .i64 0, .int .i64 0]) ?_ 2 _ rfl; (with_reducible repeat (first | refine blk_drewN ?_ _ | refine blk_drew ?_ | refine blk_alloc ?_ _)); refine blk_put (cs := #[.int .i64 a2, .int .i64 0, .int .i64 0, .int .i64 0]) ?_ 1 _ rfl; (with_reducible repeat (first | refine blk_drewN ?_ _ | refine blk_drew ?_ | refine blk_alloc ?_ _)); refine blk_put (cs := #[.int .i64 0, .int .i64 0, .int .i64 0, .int .i64 0]) ?_ 0 _ rfl; (with_reducible repeat (first | refine blk_drewN ?_ _ | refine blk_drew ?_ | refine blk_alloc ?_ _)); exact BK238.out) hg (Kd.R_away HO_11.out (fun _ hk => hk.2))); have n2_ := Aside0.mk (hb); have n3_ := Aside0.mk (ho); clear HO_7; clear BK238; clear HB; clear HO_11; have HO_7 := n0_; have BK238 := n1_; have HB := n2_; have HO241 := n3_; clear n0_ n1_ n2_ n3_; clear ho hb hg hat; obtain ⟨Ao46, co46, eo46⟩ := Kd.R_slice HO241.out; subst eo46) | ((with_reducible refine gate_callee (f := 21) rfl ?_); refine goesL_ (some 120) rfl rfl Try.func21 (by kernel_rfl) rfl #[.slice Ao46 y239.length co46] rfl (by (try simp only [List.map_toArray, List.map_cons, List.map_nil]); first | done | rfl | (simp only [List.length_drop, List.length_take]; rfl)) ?_; (with_reducible refine (mootlaw4_ledgerFault.calls kj34 _ _ y239 t242 _ ?side1 ?side2 A42.out).mono ?_); (case side1 => repeat (first | exact (Kd.R_reads' HO241.out).2.2 | (with_reducible refine Kd.C_alloc ?_ _) | (with_reducible refine Kd.C_drewN ?_ _) | (with_reducible refine Kd.C_drew ?_))); (case side2 => exact (Kd.R_reads' HO241.out).2.1); rintro e w47 ⟨rfl, hb⟩; refine ⟨_, rfl, ?_⟩; have n0_ := Aside0.mk (Kd.R_below (by (with_reducible repeat (first | apply Kd.R_alloc | apply Kd.R_drewN | apply Kd.R_drew)); exact HO_7.out) hb); have n1_ := Aside0.mk (Kd.R_below (by (with_reducible repeat (first | apply Kd.R_alloc | apply Kd.R_drewN | apply Kd.R_drew)); exact HO241.out) hb); have n2_ := Aside0.mk (blk_below (g := gb238) (o := .cells #[.int .i64 a2, .int .i64 0, .int .i64 (rd l1 x60_5), .int .i64 ji39] 35 (0, 0)) (by (with_reducible repeat (first | refine blk_drewN ?_ _ | refine blk_drew ?_ | refine blk_alloc ?_ _)); exact BK238.out) hb); have n3_ := Aside0.mk (below_step (by repeat (first | (with_reducible first | exact HB.out | apply below_alloc | apply pw_below_drewN | apply below_drew1 | refine below_set ?_ GE238.out) | exact HB.out)) hb); clear HO_7; clear HO241; clear BK238; clear HB; have HO_7 := n0_; have HO241 := n1_; have BK238 := n2_; have HB := n3_; clear n0_ n1_ n2_ n3_; (try clear hb); (try clear hb2); (try clear hk); (try clear hi)))
                                                    go_roundg kj34
                                                    case measure => have := HJ7.out; have := HJ13.out; have := HJ15.out; have := HJ21.out; have := HK5.out; have := HK6.out; have := HJ34.out; omega
                                                    case rel => exact ⟨(t242), (y239), (wrap64 (x14_6 + (ji39))), (x15_6), (by first | rfl | (simp; done) | (simp [*]; done)), (by first | rfl | (simp; done) | (simp only [← hji39] <;> (first | rfl | simp)) | (simp [*]; done)), (by first | rfl | (simp; done) | (simp [*]; done)), H', ⟨by have := HJ7.out; have := HJ13.out; have := HJ15.out; have := HJ21.out; have := HK5.out; have := HK6.out; have := HJ34.out; omega⟩, ⟨by (with_reducible repeat (first | apply Kd.R_alloc | apply Kd.R_drewN | apply Kd.R_drew)); exact Kd.R_mono HO_7.out (fun _ hk => hk.2)⟩, ⟨by (with_reducible repeat (first | apply Kd.R_alloc | apply Kd.R_drewN | apply Kd.R_drew)); exact Kd.R_mono HO241.out (fun _ hk => hk.1)⟩, ⟨by repeat (first | (with_reducible first | exact HB.out | apply below_alloc | apply pw_below_drewN | apply below_drew1 | refine below_set ?_ GE238.out) | exact HB.out)⟩⟩
                                                  · rw [if_neg c41] at H
                                                    exact absurd H (by simp)
                                                · rw [if_neg c40] at H
                                                  have c40b0 : decide (x14_6 < x15_6) = false := decide_eq_false c40
                                                  clear c40
                                                  by_cases c48 : x11_6.length < 4398046511104
                                                  · rw [if_pos c48] at H
                                                    have LMc48 := Aside0.mk c48
                                                    clear c48
                                                    obtain ⟨y243, hy243⟩ : ∃ y_ : List (S35), y_ = (x11_6 ++ [(⟨a2, (rd l1 x60_5), 0, ji39⟩ : S35)]) := ⟨_, rfl⟩
                                                    replace H : ((mootlaw4_ledgerFault.f kj34 y243).bind fun t246 => (mootlaw4_LedgerCloses.l1 kj34 a2 t225 t226 t246 y243 (rd l1 x60_5) x14_6 (wrap64 (x15_6 + (ji39))) l1 (l1.length : Int) x60_5)) = some r := by first | (rw [hy243]; with_reducible exact H) | (have H2_ := (Option.bind_some _ _).symm.trans H; rw [hy243]; with_reducible exact H2_) | (have H2_ := (Option.bind_some _ _).symm.trans H; with_reducible exact H2_) | with_reducible exact H | (rw [hy243]; exact H) | exact H
                                                    have Ny243 := Aside0.mk hy243
                                                    clear hy243
                                                    replace H := Option.bind_eq_some_iff.mp H
                                                    obtain ⟨t246, A490, H⟩ := H
                                                    replace H : (mootlaw4_LedgerCloses.l1 kj34 a2 t225 t226 t246 y243 (rd l1 x60_5) x14_6 (wrap64 (x15_6 + (ji39))) l1 (l1.length : Int) x60_5) = some r := H
                                                    have A49 := Aside0.mk A490
                                                    clear A490
                                                    have H' := Aside0.mk H
                                                    clear H
                                                    go_wp2_with (first | ((with_reducible refine gate_dst (N := 16) rfl ?_); (try (refine gate_guard (by rfl) ?_; dsimp only)); refine box_event ?hg (N := 16) ?hd (cs := #[.int .i64 0, .int .i64 0, .int .i64 0, .int .i64 0]) (t := 35) ?hr ?_; (case hd => rfl); (case hg => rfl); (case hr => first | (go_simp; done) | (go_simp; rfl)); intro gb238 hg w50 hbox hb; have n0_ := Aside0.mk (Kd.R_below (Kd.R_elderB (by (with_reducible repeat (first | apply Kd.R_alloc | apply Kd.R_drewN | apply Kd.R_drew)); exact HO_7.out) gb238 (Nat.le_of_eq hg.symm)) hb); have n1_ := Aside0.mk (Kd.R_below (Kd.R_elderB (by (with_reducible repeat (first | apply Kd.R_alloc | apply Kd.R_drewN | apply Kd.R_drew)); exact HO_11.out) gb238 (Nat.le_of_eq hg.symm)) hb); have n2_ := Aside0.mk (below_step (by repeat (first | (with_reducible first | exact HB.out | apply below_alloc | apply pw_below_drewN | apply below_drew1) | exact HB.out)) hb); have n3_ := Aside0.mk (hbox); have n4_ := Aside0.mk ((by rw [hg]; exact (below_size (by repeat (first | (with_reducible first | exact HB.out | apply below_alloc | apply pw_below_drewN | apply below_drew1) | exact HB.out))) : w.heap.size ≤ gb238)); have n5_ := Aside0.mk ((by rw [hg]; exact (below_size (by repeat (first | (with_reducible first | exact HB.out | apply below_alloc | apply pw_below_drewN | apply below_drew1) | exact HB.out))) : w.heap.size ≤ gb238)); clear HO_7; clear HO_11; clear HB; have HO_7 := n0_; have HO_11 := n1_; have HB := n2_; have BK238 := n3_; have GW238 := n4_; have GE238 := n5_; clear n0_ n1_ n2_ n3_ n4_ n5_; clear hb hbox hg; have hcz51_0 : w50.cell? ⟨gb238, 0, none⟩ = some (.int .i64 0) := (blk_cell BK238.out 0).trans rfl; have hcz51_1 : w50.cell? ⟨gb238, 1, none⟩ = some (.int .i64 0) := (blk_cell BK238.out 1).trans rfl; have hcz51_2 : w50.cell? ⟨gb238, 2, none⟩ = some (.int .i64 0) := (blk_cell BK238.out 2).trans rfl; have hcz51_3 : w50.cell? ⟨gb238, 3, none⟩ = some (.int .i64 0) := (blk_cell BK238.out 3).trans rfl; have hdz51_1 : ∀ a0_, (w50.setCell ⟨gb238, 0, none⟩ a0_).cell? ⟨gb238, 1, none⟩ = some (.int .i64 0) := (by intro a0_; go_simp); have hdz51_2 : ∀ a0_ a1_, ((w50.setCell ⟨gb238, 0, none⟩ a0_).setCell ⟨gb238, 1, none⟩ a1_).cell? ⟨gb238, 2, none⟩ = some (.int .i64 0) := (by intro a0_ a1_; go_simp); have hdz51_3 : ∀ a0_ a1_ a2_, (((w50.setCell ⟨gb238, 0, none⟩ a0_).setCell ⟨gb238, 1, none⟩ a1_).setCell ⟨gb238, 2, none⟩ a2_).cell? ⟨gb238, 3, none⟩ = some (.int .i64 0) := (by intro a0_ a1_ a2_; go_simp); have hfz51_0 := blk_frozen BK238.out 0; have hfz51_1 := blk_frozen BK238.out 1; have hfz51_2 := blk_frozen BK238.out 2; have hfz51_3 := blk_frozen BK238.out 3) | ((with_reducible refine gate_builtin (b := .append) (xs := #[.tmp 115, .tmp 117]) rfl ?_); (try (refine gate_guard (by rfl) ?_; dsimp only)); at_builtin; refine Kd.R_append k35 (w0 := w) w.heap.size rfl (.tmp 115) (.tmp 117) 24 35 (.agg #[(.int .i64 0), (.int .i64 0), (.int .i64 0), (.int .i64 0)]) 32 rfl Try.underlying24 info35 rfl (by decide) (by omega) u11 x11_6 (⟨a2, (rd l1 x60_5), 0, ji39⟩ : S35) [.int .i64 a2, .int .i64 (rd l1 x60_5), .int .i64 0, .int .i64 ji39] (fun k_ => some k_ ≠ (v227 : Value).ownBlock ∧ k_ ≠ gb238) (fun _ => False) rfl (by first | (go_simp; done) | (go_simp; rfl)) ?aP (fun _ hk => hk.elim) ?aF ?aO ?aB ?aS ?aL ?_; (case aP => exact k35_mkM _ _ _ (⟨a2, (rd l1 x60_5), 0, ji39⟩ : S35)); (case aB => exact (by repeat (first | (with_reducible first | exact HB.out | apply below_alloc | apply pw_below_drewN | apply below_drew1 | refine below_set ?_ GE238.out) | exact HB.out))); (case aF => exact (fun k_ hk => ⟨Kd.fresh' (Kd.R_lt (by (with_reducible repeat (first | apply Kd.R_alloc | apply Kd.R_drewN | apply Kd.R_drew)); exact (Kd.R_mono (Kd.R_far (p := ⟨gb238, 3, none⟩) (Kd.R_far (p := ⟨gb238, 2, none⟩) (Kd.R_far (p := ⟨gb238, 1, none⟩) (Kd.R_far (p := ⟨gb238, 0, none⟩) (Kd.R_mono HO_7.out (fun k_ hk => (⟨hk, hk.2⟩ : _ ∧ k_ ≠ gb238))) (fun _ hk => hk.2) (.int .i64 a2)) (fun _ hk => hk.2) (.int .i64 (rd l1 x60_5))) (fun _ hk => hk.2) (.int .i64 0)) (fun _ hk => hk.2) (.int .i64 ji39)) (fun _ h_ => h_.1)))) k_ hk, Kd.freshB (g := gb238) (o := .cells #[.int .i64 a2, .int .i64 (rd l1 x60_5), .int .i64 0, .int .i64 ji39] 35 (0, 0)) (by (with_reducible repeat (first | refine blk_drewN ?_ _ | refine blk_drew ?_ | refine blk_alloc ?_ _)); refine blk_put (cs := #[.int .i64 a2, .int .i64 (rd l1 x60_5), .int .i64 0, .int .i64 0]) ?_ 3 _ rfl; (with_reducible repeat (first | refine blk_drewN ?_ _ | refine blk_drew ?_ | refine blk_alloc ?_ _)); refine blk_put (cs := #[.int .i64 a2, .int .i64 (rd l1 x60_5), .int .i64 0, .int .i64 0]) ?_ 2 _ rfl; (with_reducible repeat (first | refine blk_drewN ?_ _ | refine blk_drew ?_ | refine blk_alloc ?_ _)); refine blk_put (cs := #[.int .i64 a2, .int .i64 0, .int .i64 0, .int .i64 0]) ?_ 1 _ rfl; (with_reducible repeat (first | refine blk_drewN ?_ _ | refine blk_drew ?_ | refine blk_alloc ?_ _)); refine blk_put (cs := #[.int .i64 0, .int .i64 0, .int .i64 0, .int .i64 0]) ?_ 0 _ rfl; (with_reducible repeat (first | refine blk_drewN ?_ _ | refine blk_drew ?_ | refine blk_alloc ?_ _)); exact BK238.out) k_ hk⟩)); (case aO => exact (by (with_reducible repeat (first | apply Kd.R_alloc | apply Kd.R_drewN | apply Kd.R_drew)); exact Kd.R_mono (Kd.R_far (p := ⟨gb238, 3, none⟩) (Kd.R_far (p := ⟨gb238, 2, none⟩) (Kd.R_far (p := ⟨gb238, 1, none⟩) (Kd.R_far (p := ⟨gb238, 0, none⟩) (Kd.R_mono HO_11.out (fun k_ hk => (⟨hk, hk.2⟩ : _ ∧ k_ ≠ gb238))) (fun _ hk => hk.2) (.int .i64 a2)) (fun _ hk => hk.2) (.int .i64 (rd l1 x60_5))) (fun _ hk => hk.2) (.int .i64 0)) (fun _ hk => hk.2) (.int .i64 ji39)) (fun _ hk => ⟨hk.1.1, hk.1.2⟩))); (case aS => exact (below_size (by repeat (first | (with_reducible first | exact HB.out | apply below_alloc | apply pw_below_drewN | apply below_drew1 | refine below_set ?_ GE238.out) | exact HB.out)))); (case aL => have := LMc48.out; omega); intro v244 w52 ho hb hg hat; rw [← Ny243.out] at ho; have n0_ := Aside0.mk (Kd.R_after (ok := (fun k_ => k_ ≠ gb238)) (by (with_reducible repeat (first | apply Kd.R_alloc | apply Kd.R_drewN | apply Kd.R_drew)); exact Kd.R_mono (Kd.R_far (p := ⟨gb238, 3, none⟩) (Kd.R_far (p := ⟨gb238, 2, none⟩) (Kd.R_far (p := ⟨gb238, 1, none⟩) (Kd.R_far (p := ⟨gb238, 0, none⟩) (Kd.R_mono HO_7.out (fun k_ hk => (⟨hk, hk.2⟩ : _ ∧ k_ ≠ gb238))) (fun _ hk => hk.2) (.int .i64 a2)) (fun _ hk => hk.2) (.int .i64 (rd l1 x60_5))) (fun _ hk => hk.2) (.int .i64 0)) (fun _ hk => hk.2) (.int .i64 ji39)) (fun _ hk => ⟨hk.1.2, hk.1.1⟩)) hg hat); have n1_ := Aside0.mk (blk_grown (g := gb238) (o := .cells #[.int .i64 a2, .int .i64 (rd l1 x60_5), .int .i64 0, .int .i64 ji39] 35 (0, 0)) (by (with_reducible repeat (first | refine blk_drewN ?_ _ | refine blk_drew ?_ | refine blk_alloc ?_ _)); refine blk_put (cs := #[.int .i64 a2, .int .i64 (rd l1 x60_5), .int .i64 0, .int .i64 0]) ?_ 3 _ rfl; (with_reducible repeat (first | refine blk_drewN ?_ _ | refine blk_drew ?_ | refine blk_alloc ?_ _)); refine blk_put (cs := #[.int .i64 a2, .int .i64 (rd l1 x60_5), .int .i64 0, .int .i64 0]) ?_ 2 _ rfl; (with_reducible repeat (first | refine blk_drewN ?_ _ | refine blk_drew ?_ | refine blk_alloc ?_ _)); refine blk_put (cs := #[.int .i64 a2, .int .i64 0, .int .i64 0, .int .i64 0]) ?_ 1 _ rfl; (with_reducible repeat (first | refine blk_drewN ?_ _ | refine blk_drew ?_ | refine blk_alloc ?_ _)); refine blk_put (cs := #[.int .i64 0, .int .i64 0, .int .i64 0, .int .i64 0]) ?_ 0 _ rfl; (with_reducible repeat (first | refine blk_drewN ?_ _ | refine blk_drew ?_ | refine blk_alloc ?_ _)); exact BK238.out) hg (Kd.R_away HO_11.out (fun _ hk => hk.2))); have n2_ := Aside0.mk (hb); have n3_ := Aside0.mk (ho); clear HO_7; clear BK238; clear HB; clear HO_11; have HO_7 := n0_; have BK238 := n1_; have HB := n2_; have HO245 := n3_; clear n0_ n1_ n2_ n3_; clear ho hb hg hat; obtain ⟨Ao53, co53, eo53⟩ := Kd.R_slice HO245.out; subst eo53) | ((with_reducible refine gate_callee (f := 21) rfl ?_); refine goesL_ (some 120) rfl rfl Try.func21 (by kernel_rfl) rfl #[.slice Ao53 y243.length co53] rfl (by (try simp only [List.map_toArray, List.map_cons, List.map_nil]); first | done | rfl | (simp only [List.length_drop, List.length_take]; rfl)) ?_; (with_reducible refine (mootlaw4_ledgerFault.calls kj34 _ _ y243 t246 _ ?side1 ?side2 A49.out).mono ?_); (case side1 => repeat (first | exact (Kd.R_reads' HO245.out).2.2 | (with_reducible refine Kd.C_alloc ?_ _) | (with_reducible refine Kd.C_drewN ?_ _) | (with_reducible refine Kd.C_drew ?_))); (case side2 => exact (Kd.R_reads' HO245.out).2.1); rintro e w54 ⟨rfl, hb⟩; refine ⟨_, rfl, ?_⟩; have n0_ := Aside0.mk (Kd.R_below (by (with_reducible repeat (first | apply Kd.R_alloc | apply Kd.R_drewN | apply Kd.R_drew)); exact HO_7.out) hb); have n1_ := Aside0.mk (Kd.R_below (by (with_reducible repeat (first | apply Kd.R_alloc | apply Kd.R_drewN | apply Kd.R_drew)); exact HO245.out) hb); have n2_ := Aside0.mk (blk_below (g := gb238) (o := .cells #[.int .i64 a2, .int .i64 (rd l1 x60_5), .int .i64 0, .int .i64 ji39] 35 (0, 0)) (by (with_reducible repeat (first | refine blk_drewN ?_ _ | refine blk_drew ?_ | refine blk_alloc ?_ _)); exact BK238.out) hb); have n3_ := Aside0.mk (below_step (by repeat (first | (with_reducible first | exact HB.out | apply below_alloc | apply pw_below_drewN | apply below_drew1 | refine below_set ?_ GE238.out) | exact HB.out)) hb); clear HO_7; clear HO245; clear BK238; clear HB; have HO_7 := n0_; have HO245 := n1_; have BK238 := n2_; have HB := n3_; clear n0_ n1_ n2_ n3_; (try clear hb); (try clear hb2); (try clear hk); (try clear hi)))
                                                    go_roundg kj34
                                                    case measure => have := HJ7.out; have := HJ13.out; have := HJ15.out; have := HJ21.out; have := HK5.out; have := HK6.out; have := HJ34.out; omega
                                                    case rel => exact ⟨(t246), (y243), (x14_6), (wrap64 (x15_6 + (ji39))), (by first | rfl | (simp; done) | (simp [*]; done)), (by first | rfl | (simp; done) | (simp [*]; done)), (by first | rfl | (simp; done) | (simp only [← hji39] <;> (first | rfl | simp)) | (simp [*]; done)), H', ⟨by have := HJ7.out; have := HJ13.out; have := HJ15.out; have := HJ21.out; have := HK5.out; have := HK6.out; have := HJ34.out; omega⟩, ⟨by (with_reducible repeat (first | apply Kd.R_alloc | apply Kd.R_drewN | apply Kd.R_drew)); exact Kd.R_mono HO_7.out (fun _ hk => hk.2)⟩, ⟨by (with_reducible repeat (first | apply Kd.R_alloc | apply Kd.R_drewN | apply Kd.R_drew)); exact Kd.R_mono HO245.out (fun _ hk => hk.1)⟩, ⟨by repeat (first | (with_reducible first | exact HB.out | apply below_alloc | apply pw_below_drewN | apply below_drew1 | refine below_set ?_ GE238.out) | exact HB.out)⟩⟩
                                                  · rw [if_neg c48] at H
                                                    exact absurd H (by simp)
                                              · replace c37 := Bool.eq_false_iff.mpr c37
                                                subst c37
                                                have H1 : (mootlaw4_LedgerCloses.l0 kj34 a2 t225 t226 x9_6 x11_6 l1 (l1.length : Int) (wrap64 (x60_5 + 1))) = some r := by rw [if_neg (show ¬ (false = true) by decide)] at H; exact H
                                                clear H
                                                have H := H1
                                                clear H1
                                                have H' := Aside0.mk H
                                                clear H
                                                go_wp2
                                                go_roundg kj34
                                                case measure => have := HJ7.out; have := HJ13.out; have := HJ15.out; have := HJ21.out; have := HK5.out; have := HK6.out; have := HJ34.out; omega
                                                case rel => exact ⟨(x9_6), (x11_6), (wrap64 (x60_5 + 1)), (by first | rfl | (simp; done) | (simp [*]; done)), (by first | rfl | (simp; done) | (simp [*]; done)), H', ⟨by have := HJ7.out; have := HJ13.out; have := HJ15.out; have := HJ21.out; have := HK5.out; have := HK6.out; have := HJ34.out; omega⟩, ⟨by (with_reducible repeat (first | apply Kd.R_alloc | apply Kd.R_drewN | apply Kd.R_drew)); exact HO_7.out⟩, ⟨by (with_reducible repeat (first | apply Kd.R_alloc | apply Kd.R_drewN | apply Kd.R_drew)); exact HO_11.out⟩, ⟨by repeat (first | (with_reducible first | exact HB.out | apply below_alloc | apply pw_below_drewN | apply below_drew1) | exact HB.out)⟩⟩
                              · rw [if_neg c29] at H
                                have c29b0 : (x9_5 == 0) = false := beq_eq_false_iff_ne.mpr c29
                                have c29b1 : (x9_5 != 0) = true := bne_iff_ne.mpr c29
                                have H' := Aside0.mk H
                                clear H
                                have p235 : 0 ≤ (x60_5 : Int) := of_decide_eq_true (by first | (with_reducible assumption) | assumption)
                                have q235 : x60_5 < (l1.length : Int) := of_decide_eq_true (by first | (with_reducible assumption) | assumption)
                                obtain ⟨ad235, e235, hx235_0⟩ := Kd.at_int HR1.out x60_5 p235 q235
                                cases e235
                                replace hx235_0 := (HB.out.cell (World.block_lt_of_cell? w _ hx235_0)).trans hx235_0
                                replace p235 := eq_true p235
                                replace q235 := eq_true q235
                                go_wp2
                                go_roundg k5
                                case measure => have := HJ7.out; have := HJ13.out; have := HJ15.out; have := HJ21.out; have := HK5.out; omega
                                case rel => exact ⟨(x9_5), (x11_5), (wrap64 (x60_5 + 1)), (by first | rfl | (simp; done) | (simp [*]; done)), (by first | rfl | (simp; done) | (simp [*]; done)), H', ⟨by have := HJ7.out; have := HJ13.out; have := HJ15.out; have := HJ21.out; have := HK5.out; omega⟩, ⟨by (with_reducible repeat (first | apply Kd.R_alloc | apply Kd.R_drewN | apply Kd.R_drew)); exact HO_7.out⟩, ⟨by (with_reducible repeat (first | apply Kd.R_alloc | apply Kd.R_drewN | apply Kd.R_drew)); exact HO_11.out⟩, ⟨by repeat (first | (with_reducible first | exact HB.out | apply below_alloc | apply pw_below_drewN | apply below_drew1) | exact HB.out)⟩⟩
                            · rw [if_neg c28] at H
                              exact absurd H (by simp)
                          · rw [if_neg c27] at H
                            exact absurd H (by simp)
                        · rw [if_neg c26] at H
                          have c26b0 : decide (x60_5 < (l1.length : Int)) = false := decide_eq_false c26
                          clear c26
                          by_cases c55 : x9_5 = 0
                          · rw [if_pos c55] at H
                            have c55b0 : (x9_5 == 0) = true := beq_iff_eq.mpr c55
                            have c55b1 : (x9_5 != 0) = false := bne_eq_false_iff_eq.mpr c55
                            clear c55
                            by_cases c56 : t226 = 0
                            · rw [if_pos c56] at H
                              have c56b0 : (t226 == 0) = true := beq_iff_eq.mpr c56
                              have c56b1 : (t226 != 0) = false := bne_eq_false_iff_eq.mpr c56
                              clear c56
                              replace H := Option.bind_eq_some_iff.mp H
                              obtain ⟨t234, A570, H⟩ := H
                              replace H : (some t234) = some r := H
                              have A57 := Aside0.mk A570
                              clear A570
                              obtain rfl := Option.some.inj H
                              obtain ⟨Ao58, co58, eo58⟩ := Kd.R_slice HO_7.out
                              subst eo58
                              obtain ⟨Ao59, co59, eo59⟩ := Kd.R_slice HO_11.out
                              subst eo59
                              go_wp2_with (first | (go_at_call 24; (with_reducible refine (ledger_Entry_24.calls k5 _ _ t225 _ _ x11_5 t234 _ ?side1 ?side2 ?side3 ?side4 A57.out).mono ?_); (case side1 => repeat (first | exact (Kd.R_reads' HO_7.out).2.2 | (with_reducible refine Kd.C_alloc ?_ _) | (with_reducible refine Kd.C_drewN ?_ _) | (with_reducible refine Kd.C_drew ?_))); (case side2 => exact (Kd.R_reads' HO_7.out).2.1); (case side3 => repeat (first | exact (Kd.R_reads' HO_11.out).2.2 | (with_reducible refine Kd.C_alloc ?_ _) | (with_reducible refine Kd.C_drewN ?_ _) | (with_reducible refine Kd.C_drew ?_))); (case side4 => exact (Kd.R_reads' HO_11.out).2.1); rintro e w' ⟨rfl, ⟨nd, rfl⟩⟩))
                              go_ret
                              exact ⟨by first | rfl | (simp [errW_none, errW_some] <;> rfl) | (simp [*, errW_none, errW_some] <;> rfl), by repeat (first | (with_reducible first | exact HB.out | apply below_alloc | apply pw_below_drewN | apply below_drew1) | exact HB.out)⟩
                            · rw [if_neg c56] at H
                              have c56b0 : (t226 == 0) = false := beq_eq_false_iff_ne.mpr c56
                              have c56b1 : (t226 != 0) = true := bne_iff_ne.mpr c56
                              obtain rfl := Option.some.inj H
                              go_wp2
                              go_ret
                              exact ⟨by first | rfl | (simp [errW_none, errW_some] <;> rfl) | (simp [*, errW_none, errW_some] <;> rfl), by repeat (first | (with_reducible first | exact HB.out | apply below_alloc | apply pw_below_drewN | apply below_drew1) | exact HB.out)⟩
                          · rw [if_neg c55] at H
                            have c55b0 : (x9_5 == 0) = false := beq_eq_false_iff_ne.mpr c55
                            have c55b1 : (x9_5 != 0) = true := bne_iff_ne.mpr c55
                            by_cases c60 : t226 = x9_5
                            · rw [if_pos c60] at H
                              have c60b0 : (t226 == x9_5) = true := beq_iff_eq.mpr c60
                              have c60b1 : (t226 != x9_5) = false := bne_eq_false_iff_eq.mpr c60
                              clear c60
                              obtain rfl := Option.some.inj H
                              obtain ⟨Ao61, co61, eo61⟩ := Kd.R_slice HO_7.out
                              subst eo61
                              go_wp2
                              go_ret
                              exact ⟨by first | rfl | (simp [errW_none, errW_some] <;> rfl) | (simp [*, errW_none, errW_some] <;> rfl), by repeat (first | (with_reducible first | exact HB.out | apply below_alloc | apply pw_below_drewN | apply below_drew1) | exact HB.out)⟩
                            · rw [if_neg c60] at H
                              have c60b0 : (t226 == x9_5) = false := beq_eq_false_iff_ne.mpr c60
                              have c60b1 : (t226 != x9_5) = true := bne_iff_ne.mpr c60
                              obtain rfl := Option.some.inj H
                              go_wp2
                              go_ret
                              exact ⟨by first | rfl | (simp [errW_none, errW_some] <;> rfl) | (simp [*, errW_none, errW_some] <;> rfl), by repeat (first | (with_reducible first | exact HB.out | apply below_alloc | apply pw_below_drewN | apply below_drew1) | exact HB.out)⟩
  · replace c5 := Bool.eq_false_iff.mpr c5
    subst c5
    have H1 : (some false) = some r := by rw [if_neg (show ¬ (false = true) by decide)] at H; exact H
    clear H
    have H := H1
    clear H1
    obtain rfl := Option.some.inj H
    go_enter Try.func5, Try.ntmps5
    go_wp2_with (first | ((with_reducible refine gate_callee (f := 19) rfl ?_); refine goesL_ (some 17) rfl rfl Try.func19 (by kernel_rfl) rfl #[] rfl (by (try simp only [List.map_toArray, List.map_cons, List.map_nil]); first | done | rfl | (simp only [List.length_drop, List.length_take]; rfl)) ?_; (with_reducible refine (mootlaw4_posts.calls k  false _ A4.out).mono ?_); rintro e w62 ⟨rfl, hb⟩; refine ⟨_, rfl, ?_⟩; have n0_ := Aside0.mk (below_step (by repeat (first | (with_reducible first | exact HB.out | apply below_alloc | apply pw_below_drewN | apply below_drew1) | exact HB.out)) hb); clear HB; have HB := n0_; clear n0_; (try clear hb); (try clear hb2); (try clear hk); (try clear hi)))
    go_ret
    exact ⟨by first | rfl | (simp [errW_none, errW_some] <;> rfl) | (simp [*, errW_none, errW_some] <;> rfl), by repeat (first | (with_reducible first | exact HB.out | apply below_alloc | apply pw_below_drewN | apply below_drew1) | exact HB.out)⟩

/-- THE ONE PURE STATEMENT of mootlaw4_LedgerCloses: yours. -/
def mootlaw4_LedgerCloses.Pure : Prop := ∀ (l0 : List (S35)) (l1 : List Int) (a2 : Int), l0.length ≤ maxLen → l0.length * 32 ≤ 140737488351232 → (∀ x ∈ l0, wf_S35 x) → l1.length ≤ maxLen → l1.length * 8 ≤ 140737488351232 → (∀ x ∈ l1, (Lit.int .i64 x).wf = true) → (Lit.int .i64 a2).wf = true → ∃ k, mootlaw4_LedgerCloses.f k l0 l1 a2 = some true
theorem mootlaw4_LedgerCloses.walk (P : mootlaw4_LedgerCloses.Pure) (a0 : Option Addr) (len0 cap0 : Nat) (l0 : List (S35)) (a1 : Option Addr) (len1 cap1 : Nat) (z1 : List Int) (a2 : Int) (w : World) (w0 : len0 = l0.length ∧ l0.length ≤ cap0 ∧ Kd.C k35 w a0 l0.length l0) (x0 : l0.length ≤ maxLen ∧ ∀ x ∈ l0, wf_S35 x) (y0 : len0 * 32 ≤ 140737488351232) (w1 : (a1 = none ∧ len1 = 0 ∧ cap1 = 0 ∧ z1 = []) ∨ ∃ x, a1 = some x ∧ len1 ≤ cap1 ∧ cap1 ≤ maxLen ∧ z1.length = cap1 ∧ (∀ i, i < z1.length → w.cell? (x.add i) = some (.int .i64 (z1.getD i 0))) ∧ ∀ n ∈ z1, (Lit.int .i64 n).wf = true) (y1 : len1 * 8 ≤ 140737488351232) (w2 : (Lit.int .i64 a2).wf = true) :
    Calls Try.prog 5 #[.slice a0 len0 cap0, .slice a1 len1 cap1, .int .i64 a2] w fun e w' => e = .returned (.bool true) ∧ Below w.heap.size w w' := by
  obtain ⟨rfl, hc0, hr0⟩ := w0
  obtain ⟨l1, rfl, hr1, hm1, hw1, hc1⟩ := ReadsInt.ofRowC w1
  obtain ⟨k, h⟩ := P l0 l1 a2 x0.1 y0 x0.2 hm1 y1 hw1 w2
  refine (mootlaw4_LedgerCloses.calls k _ _ l0 _ _ l1 a2 true w hr0 hc0 (Kd.C_of_reads (d := (0 : Int)) (h1 := fun _ => rfl) hr1) hc1 h).mono ?_
  rintro e w' ⟨rfl, hd⟩
  exact ⟨rfl, hd⟩

end Go.Proofs.Ytenhnlclnjnboaa.PAll
