-- Printed by this session's wip/myprint.py.
import Derived.Test.YtghnbiknghelpaaPBtlx0
import Derived.Test.YtghnbiknghelpaaPBtlx1
import Derived.Test.YtghnbiknghelpaaPBtlx2
import Derived.Test.YtghnbiknghelpaaPBtlx3
import Derived.Test.YtghnbiknghelpaaPBtlx4
import Derived.Test.YtghnbiknghelpaaPBtlx5
import Derived.Test.YtghnbiknghelpaaPBtlx7
import Derived.Test.YtghnbiknghelpaaPBtlx8
import Derived.Test.YtghnbiknghelpaaPBtlx9
import Derived.Test.YtghnbiknghelpaaPBtlx10
import Derived.Test.YtghnbiknghelpaaPBtlx11
import Derived.Test.YtghnbiknghelpaaPBtlx13
import Derived.Test.YtghnbiknghelpaaPBtlx14
import Derived.Test.YtghnbiknghelpaaPBtlx15
namespace Go.Proofs.Ytghnbiknghelpaa.PBtl
open Go.RowKit Go.Proofs.YtghnbiknghelpaaW.PrintWords Go.Proofs.YtghnbiknghelpaaW.PrintLast Go.Proofs.YtghnbiknghelpaaW.PrintMore
attribute [local go_sem] max2_int min2_int max_two min_two max_three min_three max_four min_four   -- for this text's walks alone
set_option linter.unusedVariables false
set_option linter.unusedSimpArgs false

attribute [local go_sem high] eqA45
/-! ### mootlaw4_BurdenTells: function 6 -/
theorem mootlaw4_BurdenTells.fa_ {a : Addr} {g n : Nat} (h : a.block ≠ g) : (a.add n).block ≠ g := by rw [add_block]; exact h
mutual
def mootlaw4_BurdenTells.j0 : Nat → List (S34) → Int → List Bool → Int → Int → Int → Bool → Int → Bool → Int → Int → Int → Int → ByteArray → Int → Int → Int → Int → Int → Int → ByteArray → Int → Int → Int → Int → Int → Option (Bool)
 | 0, _, _, _, _, _, _, _, _, _, _, _, _, _, _, _, _, _, _, _, _, _, _, _, _, _, _ => none
 | k + 1, x1, x7, x8, x10, x11, x13, x15, x16, x98, x150000, x150001, x150002, x151000, x151001, x151002, x151003, x151004, x151005, x151006, x174000, x174001, x174002, x174003, x174004, x174005, x174006 => if x98 = true then (some false) else (if x7 = 0 then (mootlaw4_BurdenTells.l0 k x1 x8 x10 x11 x13 x15 x16 ([] : List Int) ([] : List Int) x1 (x1.length : Int) 0 x150000 x150001 x150002 x151000 x151001 x151002 x151003 x151004 x151005 x151006 x174000 x174001 x174002 x174003 x174004 x174005 x174006) else (if (x8.length : Int) = 0 then (if (wrap64 ((wrap64 ((wrap64 (x10 + x11)) + x13)) + x16)) = 0 then (if x15 = true then (some false) else (some (x174000 == 0 && (x174001.toList == ([] : List UInt8) && ((x174002 == 0 && (x174003 == 0)) && (x174004 == 0 && (x174005 == 0 && (x174006 == 0)))))))) else (some false)) else (some false)))
def mootlaw4_BurdenTells.l0 : Nat → List (S34) → List Bool → Int → Int → Int → Bool → Int → List Int → List Int → List (S34) → Int → Int → Int → Int → Int → Int → ByteArray → Int → Int → Int → Int → Int → Int → ByteArray → Int → Int → Int → Int → Int → Option (Bool)
 | 0, _, _, _, _, _, _, _, _, _, _, _, _, _, _, _, _, _, _, _, _, _, _, _, _, _, _, _, _, _ => none
 | k + 1, x1, x8, x10, x11, x13, x15, x16, x20, x21, x123, x124, x125, x150000, x150001, x150002, x151000, x151001, x151002, x151003, x151004, x151005, x151006, x174000, x174001, x174002, x174003, x174004, x174005, x174006 => if x125 < x124 then (if 0 ≤ x125 then (if x125 < (x123.length : Int) then ((some (([(rd_T34 x123 x125).f1] : List Int) : List Int)).bind fun y177 => (if x20.length + y177.length < 17592186044416 then ((some (([(rd_T34 x123 x125).f2] : List Int) : List Int)).bind fun y183 => (if x21.length + y183.length < 17592186044416 then (mootlaw4_BurdenTells.l0 k x1 x8 x10 x11 x13 x15 x16 (x20 ++ y177) (x21 ++ y183) x123 x124 (wrap64 (x125 + 1)) x150000 x150001 x150002 x151000 x151001 x151002 x151003 x151004 x151005 x151006 x174000 x174001 x174002 x174003 x174004 x174005 x174006) else (none))) else (none))) else (none)) else (none)) else ((mootref4_Stands.f x20 x21).bind fun t189 => (mootlaw4_BurdenTells.l1 k x8 x10 x11 x13 x15 x16 t189 0 0 x1 (x1.length : Int) 0 x150000 x150001 x150002 x151000 x151001 x151002 x151003 x151004 x151005 x151006 x174000 x174001 x174002 x174003 x174004 x174005 x174006))
def mootlaw4_BurdenTells.l1 : Nat → List Bool → Int → Int → Int → Bool → Int → List Bool → Int → Int → List (S34) → Int → Int → Int → Int → Int → Int → ByteArray → Int → Int → Int → Int → Int → Int → ByteArray → Int → Int → Int → Int → Int → Option (Bool)
 | 0, _, _, _, _, _, _, _, _, _, _, _, _, _, _, _, _, _, _, _, _, _, _, _, _, _, _, _, _, _ => none
 | k + 1, x8, x10, x11, x13, x15, x16, x24, x25, x26, x143, x144, x145, x150000, x150001, x150002, x151000, x151001, x151002, x151003, x151004, x151005, x151006, x174000, x174001, x174002, x174003, x174004, x174005, x174006 => if x145 < x144 then (if 0 ≤ x145 then (if x145 < (x143.length : Int) then (if x145 < (x24.length : Int) then (if rdOf false x24 x145 = true then (mootlaw4_BurdenTells.j3 k x8 x10 x11 x13 x15 x16 x24 x25 x26 x145 x143 x144 x145 ((rd_T34 x143 x145).f0) x150000 x150001 x150002 x151000 x151001 x151002 x151003 x151004 x151005 x151006 x174000 x174001 x174002 x174003 x174004 x174005 x174006 ((rd_T34 x143 x145).f0) ((rd_T34 x143 x145).f1) ((rd_T34 x143 x145).f2)) else (mootlaw4_BurdenTells.j3 k x8 x10 x11 x13 x15 x16 x24 x25 x26 x145 x143 x144 x145 false x150000 x150001 x150002 x151000 x151001 x151002 x151003 x151004 x151005 x151006 x174000 x174001 x174002 x174003 x174004 x174005 x174006 ((rd_T34 x143 x145).f0) ((rd_T34 x143 x145).f1) ((rd_T34 x143 x145).f2))) else (none)) else (none)) else (none)) else ((slices_Equal_bool_bool.f k x8 x24).bind fun t196 => (if t196 = true then (if x10 = x25 then (if x11 = x26 then ((mootref4_Proof.f x25 x26 x150002).bind fun t197 => (mootlaw4_BurdenTells.j6 k x13 x15 x16 (x13 != t197) x150000 x150001 x150002 x151000 x151001 x151002 x151003 x151004 x151005 x151006 x174000 x174001 x174002 x174003 x174004 x174005 x174006)) else (mootlaw4_BurdenTells.j6 k x13 x15 x16 true x150000 x150001 x150002 x151000 x151001 x151002 x151003 x151004 x151005 x151006 x174000 x174001 x174002 x174003 x174004 x174005 x174006)) else (mootlaw4_BurdenTells.j6 k x13 x15 x16 true x150000 x150001 x150002 x151000 x151001 x151002 x151003 x151004 x151005 x151006 x174000 x174001 x174002 x174003 x174004 x174005 x174006)) else (mootlaw4_BurdenTells.j6 k x13 x15 x16 true x150000 x150001 x150002 x151000 x151001 x151002 x151003 x151004 x151005 x151006 x174000 x174001 x174002 x174003 x174004 x174005 x174006)))
def mootlaw4_BurdenTells.j3 : Nat → List Bool → Int → Int → Int → Bool → Int → List Bool → Int → Int → Int → List (S34) → Int → Int → Bool → Int → Int → Int → Int → ByteArray → Int → Int → Int → Int → Int → Int → ByteArray → Int → Int → Int → Int → Int → Bool → Int → Int → Option (Bool)
 | 0, _, _, _, _, _, _, _, _, _, _, _, _, _, _, _, _, _, _, _, _, _, _, _, _, _, _, _, _, _, _, _, _, _, _ => none
 | k + 1, x8, x10, x11, x13, x15, x16, x24, x25, x26, x27, x143, x144, x145, x157, x150000, x150001, x150002, x151000, x151001, x151002, x151003, x151004, x151005, x151006, x174000, x174001, x174002, x174003, x174004, x174005, x174006, x194000, x194001, x194002 => if x157 = true then (mootlaw4_BurdenTells.j4 k x8 x10 x11 x13 x15 x16 x24 (wrap64 (x25 + x194001)) x26 x27 x143 x144 x145 x150000 x150001 x150002 x151000 x151001 x151002 x151003 x151004 x151005 x151006 x174000 x174001 x174002 x174003 x174004 x174005 x174006 x194000 x194001 x194002) else (mootlaw4_BurdenTells.j4 k x8 x10 x11 x13 x15 x16 x24 x25 x26 x27 x143 x144 x145 x150000 x150001 x150002 x151000 x151001 x151002 x151003 x151004 x151005 x151006 x174000 x174001 x174002 x174003 x174004 x174005 x174006 x194000 x194001 x194002)
def mootlaw4_BurdenTells.j4 : Nat → List Bool → Int → Int → Int → Bool → Int → List Bool → Int → Int → Int → List (S34) → Int → Int → Int → Int → Int → Int → ByteArray → Int → Int → Int → Int → Int → Int → ByteArray → Int → Int → Int → Int → Int → Bool → Int → Int → Option (Bool)
 | 0, _, _, _, _, _, _, _, _, _, _, _, _, _, _, _, _, _, _, _, _, _, _, _, _, _, _, _, _, _, _, _, _, _ => none
 | k + 1, x8, x10, x11, x13, x15, x16, x24, x25, x26, x27, x143, x144, x145, x150000, x150001, x150002, x151000, x151001, x151002, x151003, x151004, x151005, x151006, x174000, x174001, x174002, x174003, x174004, x174005, x174006, x194000, x194001, x194002 => if 0 ≤ x27 then (if x27 < (x24.length : Int) then (if rdOf false x24 x27 = true then (mootlaw4_BurdenTells.j5 k x8 x10 x11 x13 x15 x16 x24 x25 x26 x143 x144 x145 (!x194000) x150000 x150001 x150002 x151000 x151001 x151002 x151003 x151004 x151005 x151006 x174000 x174001 x174002 x174003 x174004 x174005 x174006 x194000 x194001 x194002) else (mootlaw4_BurdenTells.j5 k x8 x10 x11 x13 x15 x16 x24 x25 x26 x143 x144 x145 false x150000 x150001 x150002 x151000 x151001 x151002 x151003 x151004 x151005 x151006 x174000 x174001 x174002 x174003 x174004 x174005 x174006 x194000 x194001 x194002)) else (none)) else (none)
def mootlaw4_BurdenTells.j5 : Nat → List Bool → Int → Int → Int → Bool → Int → List Bool → Int → Int → List (S34) → Int → Int → Bool → Int → Int → Int → Int → ByteArray → Int → Int → Int → Int → Int → Int → ByteArray → Int → Int → Int → Int → Int → Bool → Int → Int → Option (Bool)
 | 0, _, _, _, _, _, _, _, _, _, _, _, _, _, _, _, _, _, _, _, _, _, _, _, _, _, _, _, _, _, _, _, _, _ => none
 | k + 1, x8, x10, x11, x13, x15, x16, x24, x25, x26, x143, x144, x145, x170, x150000, x150001, x150002, x151000, x151001, x151002, x151003, x151004, x151005, x151006, x174000, x174001, x174002, x174003, x174004, x174005, x174006, x194000, x194001, x194002 => if x170 = true then (mootlaw4_BurdenTells.l1 k x8 x10 x11 x13 x15 x16 x24 x25 (wrap64 (x26 + x194001)) x143 x144 (wrap64 (x145 + 1)) x150000 x150001 x150002 x151000 x151001 x151002 x151003 x151004 x151005 x151006 x174000 x174001 x174002 x174003 x174004 x174005 x174006) else (mootlaw4_BurdenTells.l1 k x8 x10 x11 x13 x15 x16 x24 x25 x26 x143 x144 (wrap64 (x145 + 1)) x150000 x150001 x150002 x151000 x151001 x151002 x151003 x151004 x151005 x151006 x174000 x174001 x174002 x174003 x174004 x174005 x174006)
def mootlaw4_BurdenTells.j6 : Nat → Int → Bool → Int → Bool → Int → Int → Int → Int → ByteArray → Int → Int → Int → Int → Int → Int → ByteArray → Int → Int → Int → Int → Int → Option (Bool)
 | 0, _, _, _, _, _, _, _, _, _, _, _, _, _, _, _, _, _, _, _, _, _ => none
 | k + 1, x13, x15, x16, x198, x150000, x150001, x150002, x151000, x151001, x151002, x151003, x151004, x151005, x151006, x174000, x174001, x174002, x174003, x174004, x174005, x174006 => if x198 = true then (some false) else (if x13 = 2 then (if x150000 = 2 then (mootlaw4_BurdenTells.j7 k x15 x16 (x150001 == 2) 3 x151000 x151001 x151002 x151003 x151004 x151005 x151006 x174000 x174001 x174002 x174003 x174004 x174005 x174006) else (mootlaw4_BurdenTells.j7 k x15 x16 (x150000 == 1) 2 x151000 x151001 x151002 x151003 x151004 x151005 x151006 x174000 x174001 x174002 x174003 x174004 x174005 x174006)) else (mootlaw4_BurdenTells.j7 k x15 x16 (x13 == 1) 1 x151000 x151001 x151002 x151003 x151004 x151005 x151006 x174000 x174001 x174002 x174003 x174004 x174005 x174006))
def mootlaw4_BurdenTells.j7 : Nat → Bool → Int → Bool → Int → Int → ByteArray → Int → Int → Int → Int → Int → Int → ByteArray → Int → Int → Int → Int → Int → Option (Bool)
 | 0, _, _, _, _, _, _, _, _, _, _, _, _, _, _, _, _, _, _ => none
 | k + 1, x15, x16, x29, x30, x151000, x151001, x151002, x151003, x151004, x151005, x151006, x174000, x174001, x174002, x174003, x174004, x174005, x174006 => if x29 = true then (if (x15 == x29) = true then (if x16 = x30 then (some (x174000 == x151000 && (x174001.toList == x151001.toList && ((x174002 == 1 && (x174003 == (0 + 1))) && (x174004 == x151004 && (x174005 == x151005 && (x174006 == x151006))))))) else (some false)) else (some false)) else (if (x15 == x29) = true then (if x16 = x30 then (some (x174000 == x151000 && (x174001.toList == x151001.toList && ((x174002 == 1 && (x174003 == 0)) && (x174004 == x151004 && (x174005 == x151005 && (x174006 == x151006))))))) else (some false)) else (some false))
end
def mootlaw4_BurdenTells.f (k : Nat) (a0_0 : Int) (a0_1 : Int) (a0_2 : Int) (l1 : List (S34)) (a2_0 : Int) (a2_1 : ByteArray) (a2_2 : Int) (a2_3 : Int) (a2_4 : Int) (a2_5 : Int) (a2_6 : Int) : Option (Bool) := (mootlaw4_proves.f k).bind fun t151 => (if t151 = true then ((mootlaw4_issueFault.f k a0_0 a0_1 a0_2 l1).bind fun t152 => ((burden_Standing.f k a0_0 a0_1 a0_2 l1).bind fun bt153 => ((burden_Sums.f k a0_0 a0_1 a0_2 l1).bind fun bt157 => ((burden_Proof.f k a0_0 a0_1 a0_2 l1).bind fun bt160 => ((burden_Find.f k a0_0 a0_1 a0_2 l1).bind fun bt162 => ((burden_Fact.f k a0_0 a0_1 a0_2 l1 a2_0 a2_1 a2_2 a2_3 a2_4 a2_5 a2_6).bind fun bt165 => ((burden_Check.f k a0_0 a0_1 a0_2 l1).bind fun t174 => (if t174 = t152 then (if bt153.2 = t152 then (if bt157.2.2 = t152 then (if bt160.2 = t152 then (if bt162.2.2 = t152 then (mootlaw4_BurdenTells.j0 k l1 t152 bt153.1 bt157.1 bt157.2.1 bt160.1 bt162.1 bt162.2.1 (bt165.2.2.2.2.2.2.2 != t152) a0_0 a0_1 a0_2 a2_0 a2_1 a2_2 a2_3 a2_4 a2_5 a2_6 bt165.1 bt165.2.1 bt165.2.2.1 bt165.2.2.2.1 bt165.2.2.2.2.1 bt165.2.2.2.2.2.1 bt165.2.2.2.2.2.2.1) else (mootlaw4_BurdenTells.j0 k l1 t152 bt153.1 bt157.1 bt157.2.1 bt160.1 bt162.1 bt162.2.1 true a0_0 a0_1 a0_2 a2_0 a2_1 a2_2 a2_3 a2_4 a2_5 a2_6 bt165.1 bt165.2.1 bt165.2.2.1 bt165.2.2.2.1 bt165.2.2.2.2.1 bt165.2.2.2.2.2.1 bt165.2.2.2.2.2.2.1)) else (mootlaw4_BurdenTells.j0 k l1 t152 bt153.1 bt157.1 bt157.2.1 bt160.1 bt162.1 bt162.2.1 true a0_0 a0_1 a0_2 a2_0 a2_1 a2_2 a2_3 a2_4 a2_5 a2_6 bt165.1 bt165.2.1 bt165.2.2.1 bt165.2.2.2.1 bt165.2.2.2.2.1 bt165.2.2.2.2.2.1 bt165.2.2.2.2.2.2.1)) else (mootlaw4_BurdenTells.j0 k l1 t152 bt153.1 bt157.1 bt157.2.1 bt160.1 bt162.1 bt162.2.1 true a0_0 a0_1 a0_2 a2_0 a2_1 a2_2 a2_3 a2_4 a2_5 a2_6 bt165.1 bt165.2.1 bt165.2.2.1 bt165.2.2.2.1 bt165.2.2.2.2.1 bt165.2.2.2.2.2.1 bt165.2.2.2.2.2.2.1)) else (mootlaw4_BurdenTells.j0 k l1 t152 bt153.1 bt157.1 bt157.2.1 bt160.1 bt162.1 bt162.2.1 true a0_0 a0_1 a0_2 a2_0 a2_1 a2_2 a2_3 a2_4 a2_5 a2_6 bt165.1 bt165.2.1 bt165.2.2.1 bt165.2.2.2.1 bt165.2.2.2.2.1 bt165.2.2.2.2.2.1 bt165.2.2.2.2.2.2.1)) else (mootlaw4_BurdenTells.j0 k l1 t152 bt153.1 bt157.1 bt157.2.1 bt160.1 bt162.1 bt162.2.1 true a0_0 a0_1 a0_2 a2_0 a2_1 a2_2 a2_3 a2_4 a2_5 a2_6 bt165.1 bt165.2.1 bt165.2.2.1 bt165.2.2.2.1 bt165.2.2.2.2.1 bt165.2.2.2.2.2.1 bt165.2.2.2.2.2.2.1))))))))) else (some false))
theorem mootlaw4_BurdenTells.mono_l : ∀ k, (∀ y0 y1 y2 y3 y4 y5 y6 y7 y8 y9 y10 y11 y12 y13 y14 y15 y16 y17 y18 y19 y20 y21 y22 y23 y24 y25, LeO (mootlaw4_BurdenTells.j0 k y0 y1 y2 y3 y4 y5 y6 y7 y8 y9 y10 y11 y12 y13 y14 y15 y16 y17 y18 y19 y20 y21 y22 y23 y24 y25) (mootlaw4_BurdenTells.j0 (k + 1) y0 y1 y2 y3 y4 y5 y6 y7 y8 y9 y10 y11 y12 y13 y14 y15 y16 y17 y18 y19 y20 y21 y22 y23 y24 y25)) ∧ (∀ y0 y1 y2 y3 y4 y5 y6 y7 y8 y9 y10 y11 y12 y13 y14 y15 y16 y17 y18 y19 y20 y21 y22 y23 y24 y25 y26 y27 y28, LeO (mootlaw4_BurdenTells.l0 k y0 y1 y2 y3 y4 y5 y6 y7 y8 y9 y10 y11 y12 y13 y14 y15 y16 y17 y18 y19 y20 y21 y22 y23 y24 y25 y26 y27 y28) (mootlaw4_BurdenTells.l0 (k + 1) y0 y1 y2 y3 y4 y5 y6 y7 y8 y9 y10 y11 y12 y13 y14 y15 y16 y17 y18 y19 y20 y21 y22 y23 y24 y25 y26 y27 y28)) ∧ (∀ y0 y1 y2 y3 y4 y5 y6 y7 y8 y9 y10 y11 y12 y13 y14 y15 y16 y17 y18 y19 y20 y21 y22 y23 y24 y25 y26 y27 y28, LeO (mootlaw4_BurdenTells.l1 k y0 y1 y2 y3 y4 y5 y6 y7 y8 y9 y10 y11 y12 y13 y14 y15 y16 y17 y18 y19 y20 y21 y22 y23 y24 y25 y26 y27 y28) (mootlaw4_BurdenTells.l1 (k + 1) y0 y1 y2 y3 y4 y5 y6 y7 y8 y9 y10 y11 y12 y13 y14 y15 y16 y17 y18 y19 y20 y21 y22 y23 y24 y25 y26 y27 y28)) ∧ (∀ y0 y1 y2 y3 y4 y5 y6 y7 y8 y9 y10 y11 y12 y13 y14 y15 y16 y17 y18 y19 y20 y21 y22 y23 y24 y25 y26 y27 y28 y29 y30 y31 y32 y33, LeO (mootlaw4_BurdenTells.j3 k y0 y1 y2 y3 y4 y5 y6 y7 y8 y9 y10 y11 y12 y13 y14 y15 y16 y17 y18 y19 y20 y21 y22 y23 y24 y25 y26 y27 y28 y29 y30 y31 y32 y33) (mootlaw4_BurdenTells.j3 (k + 1) y0 y1 y2 y3 y4 y5 y6 y7 y8 y9 y10 y11 y12 y13 y14 y15 y16 y17 y18 y19 y20 y21 y22 y23 y24 y25 y26 y27 y28 y29 y30 y31 y32 y33)) ∧ (∀ y0 y1 y2 y3 y4 y5 y6 y7 y8 y9 y10 y11 y12 y13 y14 y15 y16 y17 y18 y19 y20 y21 y22 y23 y24 y25 y26 y27 y28 y29 y30 y31 y32, LeO (mootlaw4_BurdenTells.j4 k y0 y1 y2 y3 y4 y5 y6 y7 y8 y9 y10 y11 y12 y13 y14 y15 y16 y17 y18 y19 y20 y21 y22 y23 y24 y25 y26 y27 y28 y29 y30 y31 y32) (mootlaw4_BurdenTells.j4 (k + 1) y0 y1 y2 y3 y4 y5 y6 y7 y8 y9 y10 y11 y12 y13 y14 y15 y16 y17 y18 y19 y20 y21 y22 y23 y24 y25 y26 y27 y28 y29 y30 y31 y32)) ∧ (∀ y0 y1 y2 y3 y4 y5 y6 y7 y8 y9 y10 y11 y12 y13 y14 y15 y16 y17 y18 y19 y20 y21 y22 y23 y24 y25 y26 y27 y28 y29 y30 y31 y32, LeO (mootlaw4_BurdenTells.j5 k y0 y1 y2 y3 y4 y5 y6 y7 y8 y9 y10 y11 y12 y13 y14 y15 y16 y17 y18 y19 y20 y21 y22 y23 y24 y25 y26 y27 y28 y29 y30 y31 y32) (mootlaw4_BurdenTells.j5 (k + 1) y0 y1 y2 y3 y4 y5 y6 y7 y8 y9 y10 y11 y12 y13 y14 y15 y16 y17 y18 y19 y20 y21 y22 y23 y24 y25 y26 y27 y28 y29 y30 y31 y32)) ∧ (∀ y0 y1 y2 y3 y4 y5 y6 y7 y8 y9 y10 y11 y12 y13 y14 y15 y16 y17 y18 y19 y20, LeO (mootlaw4_BurdenTells.j6 k y0 y1 y2 y3 y4 y5 y6 y7 y8 y9 y10 y11 y12 y13 y14 y15 y16 y17 y18 y19 y20) (mootlaw4_BurdenTells.j6 (k + 1) y0 y1 y2 y3 y4 y5 y6 y7 y8 y9 y10 y11 y12 y13 y14 y15 y16 y17 y18 y19 y20)) ∧ (∀ y0 y1 y2 y3 y4 y5 y6 y7 y8 y9 y10 y11 y12 y13 y14 y15 y16 y17, LeO (mootlaw4_BurdenTells.j7 k y0 y1 y2 y3 y4 y5 y6 y7 y8 y9 y10 y11 y12 y13 y14 y15 y16 y17) (mootlaw4_BurdenTells.j7 (k + 1) y0 y1 y2 y3 y4 y5 y6 y7 y8 y9 y10 y11 y12 y13 y14 y15 y16 y17))
 | 0 => ⟨fun _ _ _ _ _ _ _ _ _ _ _ _ _ _ _ _ _ _ _ _ _ _ _ _ _ _ r h => by simp [mootlaw4_BurdenTells.j0] at h, fun _ _ _ _ _ _ _ _ _ _ _ _ _ _ _ _ _ _ _ _ _ _ _ _ _ _ _ _ _ r h => by simp [mootlaw4_BurdenTells.l0] at h, fun _ _ _ _ _ _ _ _ _ _ _ _ _ _ _ _ _ _ _ _ _ _ _ _ _ _ _ _ _ r h => by simp [mootlaw4_BurdenTells.l1] at h, fun _ _ _ _ _ _ _ _ _ _ _ _ _ _ _ _ _ _ _ _ _ _ _ _ _ _ _ _ _ _ _ _ _ _ r h => by simp [mootlaw4_BurdenTells.j3] at h, fun _ _ _ _ _ _ _ _ _ _ _ _ _ _ _ _ _ _ _ _ _ _ _ _ _ _ _ _ _ _ _ _ _ r h => by simp [mootlaw4_BurdenTells.j4] at h, fun _ _ _ _ _ _ _ _ _ _ _ _ _ _ _ _ _ _ _ _ _ _ _ _ _ _ _ _ _ _ _ _ _ r h => by simp [mootlaw4_BurdenTells.j5] at h, fun _ _ _ _ _ _ _ _ _ _ _ _ _ _ _ _ _ _ _ _ _ r h => by simp [mootlaw4_BurdenTells.j6] at h, fun _ _ _ _ _ _ _ _ _ _ _ _ _ _ _ _ _ _ r h => by simp [mootlaw4_BurdenTells.j7] at h⟩
 | k + 1 => by
  obtain ⟨ih0, ih1, ih2, ih3, ih4, ih5, ih6, ih7⟩ := mootlaw4_BurdenTells.mono_l k
  refine ⟨?_, ?_, ?_, ?_, ?_, ?_, ?_, ?_⟩
  ·
   intro y0 y1 y2 y3 y4 y5 y6 y7 y8 y9 y10 y11 y12 y13 y14 y15 y16 y17 y18 y19 y20 y21 y22 y23 y24 y25
   unfold mootlaw4_BurdenTells.j0
   repeat' first
   | (with_reducible exact ih0 _ _ _ _ _ _ _ _ _ _ _ _ _ _ _ _ _ _ _ _ _ _ _ _ _ _)
   | (with_reducible exact ih1 _ _ _ _ _ _ _ _ _ _ _ _ _ _ _ _ _ _ _ _ _ _ _ _ _ _ _ _ _)
   | (with_reducible exact ih2 _ _ _ _ _ _ _ _ _ _ _ _ _ _ _ _ _ _ _ _ _ _ _ _ _ _ _ _ _)
   | (with_reducible exact ih3 _ _ _ _ _ _ _ _ _ _ _ _ _ _ _ _ _ _ _ _ _ _ _ _ _ _ _ _ _ _ _ _ _ _)
   | (with_reducible exact ih4 _ _ _ _ _ _ _ _ _ _ _ _ _ _ _ _ _ _ _ _ _ _ _ _ _ _ _ _ _ _ _ _ _)
   | (with_reducible exact ih5 _ _ _ _ _ _ _ _ _ _ _ _ _ _ _ _ _ _ _ _ _ _ _ _ _ _ _ _ _ _ _ _ _)
   | (with_reducible exact ih6 _ _ _ _ _ _ _ _ _ _ _ _ _ _ _ _ _ _ _ _ _)
   | (with_reducible exact ih7 _ _ _ _ _ _ _ _ _ _ _ _ _ _ _ _ _ _)
   | (with_reducible exact burden_Check.mono _ _ _ _ _)
   | (with_reducible exact burden_Fact.mono _ _ _ _ _ _ _ _ _ _ _ _)
   | (with_reducible exact burden_Find.mono _ _ _ _ _)
   | (with_reducible exact burden_Proof.mono _ _ _ _ _)
   | (with_reducible exact burden_Standing.mono _ _ _ _ _)
   | (with_reducible exact burden_Sums.mono _ _ _ _ _)
   | (with_reducible exact mootlaw4_issueFault.mono _ _ _ _ _)
   | (with_reducible exact mootlaw4_proves.mono _)
   | (with_reducible exact slices_Equal_bool_bool.mono _ _ _)
   | (with_reducible exact LeO.refl _)
   | (with_reducible exact LeO.none _)
   | (with_reducible refine LeO.ite ?_ ?_)
   | (with_reducible refine LeO.bind ?_ (fun _ => ?_))
   | exact ih0 _ _ _ _ _ _ _ _ _ _ _ _ _ _ _ _ _ _ _ _ _ _ _ _ _ _
   | exact ih1 _ _ _ _ _ _ _ _ _ _ _ _ _ _ _ _ _ _ _ _ _ _ _ _ _ _ _ _ _
   | exact ih2 _ _ _ _ _ _ _ _ _ _ _ _ _ _ _ _ _ _ _ _ _ _ _ _ _ _ _ _ _
   | exact ih3 _ _ _ _ _ _ _ _ _ _ _ _ _ _ _ _ _ _ _ _ _ _ _ _ _ _ _ _ _ _ _ _ _ _
   | exact ih4 _ _ _ _ _ _ _ _ _ _ _ _ _ _ _ _ _ _ _ _ _ _ _ _ _ _ _ _ _ _ _ _ _
   | exact ih5 _ _ _ _ _ _ _ _ _ _ _ _ _ _ _ _ _ _ _ _ _ _ _ _ _ _ _ _ _ _ _ _ _
   | exact ih6 _ _ _ _ _ _ _ _ _ _ _ _ _ _ _ _ _ _ _ _ _
   | exact ih7 _ _ _ _ _ _ _ _ _ _ _ _ _ _ _ _ _ _
   | exact burden_Check.mono _ _ _ _ _
   | exact burden_Fact.mono _ _ _ _ _ _ _ _ _ _ _ _
   | exact burden_Find.mono _ _ _ _ _
   | exact burden_Proof.mono _ _ _ _ _
   | exact burden_Standing.mono _ _ _ _ _
   | exact burden_Sums.mono _ _ _ _ _
   | exact mootlaw4_issueFault.mono _ _ _ _ _
   | exact mootlaw4_proves.mono _
   | exact slices_Equal_bool_bool.mono _ _ _
   | exact LeO.none _
   | refine LeO.ite ?_ ?_
   | refine LeO.bind ?_ (fun _ => ?_)
  ·
   intro y0 y1 y2 y3 y4 y5 y6 y7 y8 y9 y10 y11 y12 y13 y14 y15 y16 y17 y18 y19 y20 y21 y22 y23 y24 y25 y26 y27 y28
   unfold mootlaw4_BurdenTells.l0
   repeat' first
   | (with_reducible exact ih0 _ _ _ _ _ _ _ _ _ _ _ _ _ _ _ _ _ _ _ _ _ _ _ _ _ _)
   | (with_reducible exact ih1 _ _ _ _ _ _ _ _ _ _ _ _ _ _ _ _ _ _ _ _ _ _ _ _ _ _ _ _ _)
   | (with_reducible exact ih2 _ _ _ _ _ _ _ _ _ _ _ _ _ _ _ _ _ _ _ _ _ _ _ _ _ _ _ _ _)
   | (with_reducible exact ih3 _ _ _ _ _ _ _ _ _ _ _ _ _ _ _ _ _ _ _ _ _ _ _ _ _ _ _ _ _ _ _ _ _ _)
   | (with_reducible exact ih4 _ _ _ _ _ _ _ _ _ _ _ _ _ _ _ _ _ _ _ _ _ _ _ _ _ _ _ _ _ _ _ _ _)
   | (with_reducible exact ih5 _ _ _ _ _ _ _ _ _ _ _ _ _ _ _ _ _ _ _ _ _ _ _ _ _ _ _ _ _ _ _ _ _)
   | (with_reducible exact ih6 _ _ _ _ _ _ _ _ _ _ _ _ _ _ _ _ _ _ _ _ _)
   | (with_reducible exact ih7 _ _ _ _ _ _ _ _ _ _ _ _ _ _ _ _ _ _)
   | (with_reducible exact burden_Check.mono _ _ _ _ _)
   | (with_reducible exact burden_Fact.mono _ _ _ _ _ _ _ _ _ _ _ _)
   | (with_reducible exact burden_Find.mono _ _ _ _ _)
   | (with_reducible exact burden_Proof.mono _ _ _ _ _)
   | (with_reducible exact burden_Standing.mono _ _ _ _ _)
   | (with_reducible exact burden_Sums.mono _ _ _ _ _)
   | (with_reducible exact mootlaw4_issueFault.mono _ _ _ _ _)
   | (with_reducible exact mootlaw4_proves.mono _)
   | (with_reducible exact slices_Equal_bool_bool.mono _ _ _)
   | (with_reducible exact LeO.refl _)
   | (with_reducible exact LeO.none _)
   | (with_reducible refine LeO.ite ?_ ?_)
   | (with_reducible refine LeO.bind ?_ (fun _ => ?_))
   | exact ih0 _ _ _ _ _ _ _ _ _ _ _ _ _ _ _ _ _ _ _ _ _ _ _ _ _ _
   | exact ih1 _ _ _ _ _ _ _ _ _ _ _ _ _ _ _ _ _ _ _ _ _ _ _ _ _ _ _ _ _
   | exact ih2 _ _ _ _ _ _ _ _ _ _ _ _ _ _ _ _ _ _ _ _ _ _ _ _ _ _ _ _ _
   | exact ih3 _ _ _ _ _ _ _ _ _ _ _ _ _ _ _ _ _ _ _ _ _ _ _ _ _ _ _ _ _ _ _ _ _ _
   | exact ih4 _ _ _ _ _ _ _ _ _ _ _ _ _ _ _ _ _ _ _ _ _ _ _ _ _ _ _ _ _ _ _ _ _
   | exact ih5 _ _ _ _ _ _ _ _ _ _ _ _ _ _ _ _ _ _ _ _ _ _ _ _ _ _ _ _ _ _ _ _ _
   | exact ih6 _ _ _ _ _ _ _ _ _ _ _ _ _ _ _ _ _ _ _ _ _
   | exact ih7 _ _ _ _ _ _ _ _ _ _ _ _ _ _ _ _ _ _
   | exact burden_Check.mono _ _ _ _ _
   | exact burden_Fact.mono _ _ _ _ _ _ _ _ _ _ _ _
   | exact burden_Find.mono _ _ _ _ _
   | exact burden_Proof.mono _ _ _ _ _
   | exact burden_Standing.mono _ _ _ _ _
   | exact burden_Sums.mono _ _ _ _ _
   | exact mootlaw4_issueFault.mono _ _ _ _ _
   | exact mootlaw4_proves.mono _
   | exact slices_Equal_bool_bool.mono _ _ _
   | exact LeO.none _
   | refine LeO.ite ?_ ?_
   | refine LeO.bind ?_ (fun _ => ?_)
  ·
   intro y0 y1 y2 y3 y4 y5 y6 y7 y8 y9 y10 y11 y12 y13 y14 y15 y16 y17 y18 y19 y20 y21 y22 y23 y24 y25 y26 y27 y28
   unfold mootlaw4_BurdenTells.l1
   repeat' first
   | (with_reducible exact ih0 _ _ _ _ _ _ _ _ _ _ _ _ _ _ _ _ _ _ _ _ _ _ _ _ _ _)
   | (with_reducible exact ih1 _ _ _ _ _ _ _ _ _ _ _ _ _ _ _ _ _ _ _ _ _ _ _ _ _ _ _ _ _)
   | (with_reducible exact ih2 _ _ _ _ _ _ _ _ _ _ _ _ _ _ _ _ _ _ _ _ _ _ _ _ _ _ _ _ _)
   | (with_reducible exact ih3 _ _ _ _ _ _ _ _ _ _ _ _ _ _ _ _ _ _ _ _ _ _ _ _ _ _ _ _ _ _ _ _ _ _)
   | (with_reducible exact ih4 _ _ _ _ _ _ _ _ _ _ _ _ _ _ _ _ _ _ _ _ _ _ _ _ _ _ _ _ _ _ _ _ _)
   | (with_reducible exact ih5 _ _ _ _ _ _ _ _ _ _ _ _ _ _ _ _ _ _ _ _ _ _ _ _ _ _ _ _ _ _ _ _ _)
   | (with_reducible exact ih6 _ _ _ _ _ _ _ _ _ _ _ _ _ _ _ _ _ _ _ _ _)
   | (with_reducible exact ih7 _ _ _ _ _ _ _ _ _ _ _ _ _ _ _ _ _ _)
   | (with_reducible exact burden_Check.mono _ _ _ _ _)
   | (with_reducible exact burden_Fact.mono _ _ _ _ _ _ _ _ _ _ _ _)
   | (with_reducible exact burden_Find.mono _ _ _ _ _)
   | (with_reducible exact burden_Proof.mono _ _ _ _ _)
   | (with_reducible exact burden_Standing.mono _ _ _ _ _)
   | (with_reducible exact burden_Sums.mono _ _ _ _ _)
   | (with_reducible exact mootlaw4_issueFault.mono _ _ _ _ _)
   | (with_reducible exact mootlaw4_proves.mono _)
   | (with_reducible exact slices_Equal_bool_bool.mono _ _ _)
   | (with_reducible exact LeO.refl _)
   | (with_reducible exact LeO.none _)
   | (with_reducible refine LeO.ite ?_ ?_)
   | (with_reducible refine LeO.bind ?_ (fun _ => ?_))
   | exact ih0 _ _ _ _ _ _ _ _ _ _ _ _ _ _ _ _ _ _ _ _ _ _ _ _ _ _
   | exact ih1 _ _ _ _ _ _ _ _ _ _ _ _ _ _ _ _ _ _ _ _ _ _ _ _ _ _ _ _ _
   | exact ih2 _ _ _ _ _ _ _ _ _ _ _ _ _ _ _ _ _ _ _ _ _ _ _ _ _ _ _ _ _
   | exact ih3 _ _ _ _ _ _ _ _ _ _ _ _ _ _ _ _ _ _ _ _ _ _ _ _ _ _ _ _ _ _ _ _ _ _
   | exact ih4 _ _ _ _ _ _ _ _ _ _ _ _ _ _ _ _ _ _ _ _ _ _ _ _ _ _ _ _ _ _ _ _ _
   | exact ih5 _ _ _ _ _ _ _ _ _ _ _ _ _ _ _ _ _ _ _ _ _ _ _ _ _ _ _ _ _ _ _ _ _
   | exact ih6 _ _ _ _ _ _ _ _ _ _ _ _ _ _ _ _ _ _ _ _ _
   | exact ih7 _ _ _ _ _ _ _ _ _ _ _ _ _ _ _ _ _ _
   | exact burden_Check.mono _ _ _ _ _
   | exact burden_Fact.mono _ _ _ _ _ _ _ _ _ _ _ _
   | exact burden_Find.mono _ _ _ _ _
   | exact burden_Proof.mono _ _ _ _ _
   | exact burden_Standing.mono _ _ _ _ _
   | exact burden_Sums.mono _ _ _ _ _
   | exact mootlaw4_issueFault.mono _ _ _ _ _
   | exact mootlaw4_proves.mono _
   | exact slices_Equal_bool_bool.mono _ _ _
   | exact LeO.none _
   | refine LeO.ite ?_ ?_
   | refine LeO.bind ?_ (fun _ => ?_)
  ·
   intro y0 y1 y2 y3 y4 y5 y6 y7 y8 y9 y10 y11 y12 y13 y14 y15 y16 y17 y18 y19 y20 y21 y22 y23 y24 y25 y26 y27 y28 y29 y30 y31 y32 y33
   unfold mootlaw4_BurdenTells.j3
   repeat' first
   | (with_reducible exact ih0 _ _ _ _ _ _ _ _ _ _ _ _ _ _ _ _ _ _ _ _ _ _ _ _ _ _)
   | (with_reducible exact ih1 _ _ _ _ _ _ _ _ _ _ _ _ _ _ _ _ _ _ _ _ _ _ _ _ _ _ _ _ _)
   | (with_reducible exact ih2 _ _ _ _ _ _ _ _ _ _ _ _ _ _ _ _ _ _ _ _ _ _ _ _ _ _ _ _ _)
   | (with_reducible exact ih3 _ _ _ _ _ _ _ _ _ _ _ _ _ _ _ _ _ _ _ _ _ _ _ _ _ _ _ _ _ _ _ _ _ _)
   | (with_reducible exact ih4 _ _ _ _ _ _ _ _ _ _ _ _ _ _ _ _ _ _ _ _ _ _ _ _ _ _ _ _ _ _ _ _ _)
   | (with_reducible exact ih5 _ _ _ _ _ _ _ _ _ _ _ _ _ _ _ _ _ _ _ _ _ _ _ _ _ _ _ _ _ _ _ _ _)
   | (with_reducible exact ih6 _ _ _ _ _ _ _ _ _ _ _ _ _ _ _ _ _ _ _ _ _)
   | (with_reducible exact ih7 _ _ _ _ _ _ _ _ _ _ _ _ _ _ _ _ _ _)
   | (with_reducible exact burden_Check.mono _ _ _ _ _)
   | (with_reducible exact burden_Fact.mono _ _ _ _ _ _ _ _ _ _ _ _)
   | (with_reducible exact burden_Find.mono _ _ _ _ _)
   | (with_reducible exact burden_Proof.mono _ _ _ _ _)
   | (with_reducible exact burden_Standing.mono _ _ _ _ _)
   | (with_reducible exact burden_Sums.mono _ _ _ _ _)
   | (with_reducible exact mootlaw4_issueFault.mono _ _ _ _ _)
   | (with_reducible exact mootlaw4_proves.mono _)
   | (with_reducible exact slices_Equal_bool_bool.mono _ _ _)
   | (with_reducible exact LeO.refl _)
   | (with_reducible exact LeO.none _)
   | (with_reducible refine LeO.ite ?_ ?_)
   | (with_reducible refine LeO.bind ?_ (fun _ => ?_))
   | exact ih0 _ _ _ _ _ _ _ _ _ _ _ _ _ _ _ _ _ _ _ _ _ _ _ _ _ _
   | exact ih1 _ _ _ _ _ _ _ _ _ _ _ _ _ _ _ _ _ _ _ _ _ _ _ _ _ _ _ _ _
   | exact ih2 _ _ _ _ _ _ _ _ _ _ _ _ _ _ _ _ _ _ _ _ _ _ _ _ _ _ _ _ _
   | exact ih3 _ _ _ _ _ _ _ _ _ _ _ _ _ _ _ _ _ _ _ _ _ _ _ _ _ _ _ _ _ _ _ _ _ _
   | exact ih4 _ _ _ _ _ _ _ _ _ _ _ _ _ _ _ _ _ _ _ _ _ _ _ _ _ _ _ _ _ _ _ _ _
   | exact ih5 _ _ _ _ _ _ _ _ _ _ _ _ _ _ _ _ _ _ _ _ _ _ _ _ _ _ _ _ _ _ _ _ _
   | exact ih6 _ _ _ _ _ _ _ _ _ _ _ _ _ _ _ _ _ _ _ _ _
   | exact ih7 _ _ _ _ _ _ _ _ _ _ _ _ _ _ _ _ _ _
   | exact burden_Check.mono _ _ _ _ _
   | exact burden_Fact.mono _ _ _ _ _ _ _ _ _ _ _ _
   | exact burden_Find.mono _ _ _ _ _
   | exact burden_Proof.mono _ _ _ _ _
   | exact burden_Standing.mono _ _ _ _ _
   | exact burden_Sums.mono _ _ _ _ _
   | exact mootlaw4_issueFault.mono _ _ _ _ _
   | exact mootlaw4_proves.mono _
   | exact slices_Equal_bool_bool.mono _ _ _
   | exact LeO.none _
   | refine LeO.ite ?_ ?_
   | refine LeO.bind ?_ (fun _ => ?_)
  ·
   intro y0 y1 y2 y3 y4 y5 y6 y7 y8 y9 y10 y11 y12 y13 y14 y15 y16 y17 y18 y19 y20 y21 y22 y23 y24 y25 y26 y27 y28 y29 y30 y31 y32
   unfold mootlaw4_BurdenTells.j4
   repeat' first
   | (with_reducible exact ih0 _ _ _ _ _ _ _ _ _ _ _ _ _ _ _ _ _ _ _ _ _ _ _ _ _ _)
   | (with_reducible exact ih1 _ _ _ _ _ _ _ _ _ _ _ _ _ _ _ _ _ _ _ _ _ _ _ _ _ _ _ _ _)
   | (with_reducible exact ih2 _ _ _ _ _ _ _ _ _ _ _ _ _ _ _ _ _ _ _ _ _ _ _ _ _ _ _ _ _)
   | (with_reducible exact ih3 _ _ _ _ _ _ _ _ _ _ _ _ _ _ _ _ _ _ _ _ _ _ _ _ _ _ _ _ _ _ _ _ _ _)
   | (with_reducible exact ih4 _ _ _ _ _ _ _ _ _ _ _ _ _ _ _ _ _ _ _ _ _ _ _ _ _ _ _ _ _ _ _ _ _)
   | (with_reducible exact ih5 _ _ _ _ _ _ _ _ _ _ _ _ _ _ _ _ _ _ _ _ _ _ _ _ _ _ _ _ _ _ _ _ _)
   | (with_reducible exact ih6 _ _ _ _ _ _ _ _ _ _ _ _ _ _ _ _ _ _ _ _ _)
   | (with_reducible exact ih7 _ _ _ _ _ _ _ _ _ _ _ _ _ _ _ _ _ _)
   | (with_reducible exact burden_Check.mono _ _ _ _ _)
   | (with_reducible exact burden_Fact.mono _ _ _ _ _ _ _ _ _ _ _ _)
   | (with_reducible exact burden_Find.mono _ _ _ _ _)
   | (with_reducible exact burden_Proof.mono _ _ _ _ _)
   | (with_reducible exact burden_Standing.mono _ _ _ _ _)
   | (with_reducible exact burden_Sums.mono _ _ _ _ _)
   | (with_reducible exact mootlaw4_issueFault.mono _ _ _ _ _)
   | (with_reducible exact mootlaw4_proves.mono _)
   | (with_reducible exact slices_Equal_bool_bool.mono _ _ _)
   | (with_reducible exact LeO.refl _)
   | (with_reducible exact LeO.none _)
   | (with_reducible refine LeO.ite ?_ ?_)
   | (with_reducible refine LeO.bind ?_ (fun _ => ?_))
   | exact ih0 _ _ _ _ _ _ _ _ _ _ _ _ _ _ _ _ _ _ _ _ _ _ _ _ _ _
   | exact ih1 _ _ _ _ _ _ _ _ _ _ _ _ _ _ _ _ _ _ _ _ _ _ _ _ _ _ _ _ _
   | exact ih2 _ _ _ _ _ _ _ _ _ _ _ _ _ _ _ _ _ _ _ _ _ _ _ _ _ _ _ _ _
   | exact ih3 _ _ _ _ _ _ _ _ _ _ _ _ _ _ _ _ _ _ _ _ _ _ _ _ _ _ _ _ _ _ _ _ _ _
   | exact ih4 _ _ _ _ _ _ _ _ _ _ _ _ _ _ _ _ _ _ _ _ _ _ _ _ _ _ _ _ _ _ _ _ _
   | exact ih5 _ _ _ _ _ _ _ _ _ _ _ _ _ _ _ _ _ _ _ _ _ _ _ _ _ _ _ _ _ _ _ _ _
   | exact ih6 _ _ _ _ _ _ _ _ _ _ _ _ _ _ _ _ _ _ _ _ _
   | exact ih7 _ _ _ _ _ _ _ _ _ _ _ _ _ _ _ _ _ _
   | exact burden_Check.mono _ _ _ _ _
   | exact burden_Fact.mono _ _ _ _ _ _ _ _ _ _ _ _
   | exact burden_Find.mono _ _ _ _ _
   | exact burden_Proof.mono _ _ _ _ _
   | exact burden_Standing.mono _ _ _ _ _
   | exact burden_Sums.mono _ _ _ _ _
   | exact mootlaw4_issueFault.mono _ _ _ _ _
   | exact mootlaw4_proves.mono _
   | exact slices_Equal_bool_bool.mono _ _ _
   | exact LeO.none _
   | refine LeO.ite ?_ ?_
   | refine LeO.bind ?_ (fun _ => ?_)
  ·
   intro y0 y1 y2 y3 y4 y5 y6 y7 y8 y9 y10 y11 y12 y13 y14 y15 y16 y17 y18 y19 y20 y21 y22 y23 y24 y25 y26 y27 y28 y29 y30 y31 y32
   unfold mootlaw4_BurdenTells.j5
   repeat' first
   | (with_reducible exact ih0 _ _ _ _ _ _ _ _ _ _ _ _ _ _ _ _ _ _ _ _ _ _ _ _ _ _)
   | (with_reducible exact ih1 _ _ _ _ _ _ _ _ _ _ _ _ _ _ _ _ _ _ _ _ _ _ _ _ _ _ _ _ _)
   | (with_reducible exact ih2 _ _ _ _ _ _ _ _ _ _ _ _ _ _ _ _ _ _ _ _ _ _ _ _ _ _ _ _ _)
   | (with_reducible exact ih3 _ _ _ _ _ _ _ _ _ _ _ _ _ _ _ _ _ _ _ _ _ _ _ _ _ _ _ _ _ _ _ _ _ _)
   | (with_reducible exact ih4 _ _ _ _ _ _ _ _ _ _ _ _ _ _ _ _ _ _ _ _ _ _ _ _ _ _ _ _ _ _ _ _ _)
   | (with_reducible exact ih5 _ _ _ _ _ _ _ _ _ _ _ _ _ _ _ _ _ _ _ _ _ _ _ _ _ _ _ _ _ _ _ _ _)
   | (with_reducible exact ih6 _ _ _ _ _ _ _ _ _ _ _ _ _ _ _ _ _ _ _ _ _)
   | (with_reducible exact ih7 _ _ _ _ _ _ _ _ _ _ _ _ _ _ _ _ _ _)
   | (with_reducible exact burden_Check.mono _ _ _ _ _)
   | (with_reducible exact burden_Fact.mono _ _ _ _ _ _ _ _ _ _ _ _)
   | (with_reducible exact burden_Find.mono _ _ _ _ _)
   | (with_reducible exact burden_Proof.mono _ _ _ _ _)
   | (with_reducible exact burden_Standing.mono _ _ _ _ _)
   | (with_reducible exact burden_Sums.mono _ _ _ _ _)
   | (with_reducible exact mootlaw4_issueFault.mono _ _ _ _ _)
   | (with_reducible exact mootlaw4_proves.mono _)
   | (with_reducible exact slices_Equal_bool_bool.mono _ _ _)
   | (with_reducible exact LeO.refl _)
   | (with_reducible exact LeO.none _)
   | (with_reducible refine LeO.ite ?_ ?_)
   | (with_reducible refine LeO.bind ?_ (fun _ => ?_))
   | exact ih0 _ _ _ _ _ _ _ _ _ _ _ _ _ _ _ _ _ _ _ _ _ _ _ _ _ _
   | exact ih1 _ _ _ _ _ _ _ _ _ _ _ _ _ _ _ _ _ _ _ _ _ _ _ _ _ _ _ _ _
   | exact ih2 _ _ _ _ _ _ _ _ _ _ _ _ _ _ _ _ _ _ _ _ _ _ _ _ _ _ _ _ _
   | exact ih3 _ _ _ _ _ _ _ _ _ _ _ _ _ _ _ _ _ _ _ _ _ _ _ _ _ _ _ _ _ _ _ _ _ _
   | exact ih4 _ _ _ _ _ _ _ _ _ _ _ _ _ _ _ _ _ _ _ _ _ _ _ _ _ _ _ _ _ _ _ _ _
   | exact ih5 _ _ _ _ _ _ _ _ _ _ _ _ _ _ _ _ _ _ _ _ _ _ _ _ _ _ _ _ _ _ _ _ _
   | exact ih6 _ _ _ _ _ _ _ _ _ _ _ _ _ _ _ _ _ _ _ _ _
   | exact ih7 _ _ _ _ _ _ _ _ _ _ _ _ _ _ _ _ _ _
   | exact burden_Check.mono _ _ _ _ _
   | exact burden_Fact.mono _ _ _ _ _ _ _ _ _ _ _ _
   | exact burden_Find.mono _ _ _ _ _
   | exact burden_Proof.mono _ _ _ _ _
   | exact burden_Standing.mono _ _ _ _ _
   | exact burden_Sums.mono _ _ _ _ _
   | exact mootlaw4_issueFault.mono _ _ _ _ _
   | exact mootlaw4_proves.mono _
   | exact slices_Equal_bool_bool.mono _ _ _
   | exact LeO.none _
   | refine LeO.ite ?_ ?_
   | refine LeO.bind ?_ (fun _ => ?_)
  ·
   intro y0 y1 y2 y3 y4 y5 y6 y7 y8 y9 y10 y11 y12 y13 y14 y15 y16 y17 y18 y19 y20
   unfold mootlaw4_BurdenTells.j6
   repeat' first
   | (with_reducible exact ih0 _ _ _ _ _ _ _ _ _ _ _ _ _ _ _ _ _ _ _ _ _ _ _ _ _ _)
   | (with_reducible exact ih1 _ _ _ _ _ _ _ _ _ _ _ _ _ _ _ _ _ _ _ _ _ _ _ _ _ _ _ _ _)
   | (with_reducible exact ih2 _ _ _ _ _ _ _ _ _ _ _ _ _ _ _ _ _ _ _ _ _ _ _ _ _ _ _ _ _)
   | (with_reducible exact ih3 _ _ _ _ _ _ _ _ _ _ _ _ _ _ _ _ _ _ _ _ _ _ _ _ _ _ _ _ _ _ _ _ _ _)
   | (with_reducible exact ih4 _ _ _ _ _ _ _ _ _ _ _ _ _ _ _ _ _ _ _ _ _ _ _ _ _ _ _ _ _ _ _ _ _)
   | (with_reducible exact ih5 _ _ _ _ _ _ _ _ _ _ _ _ _ _ _ _ _ _ _ _ _ _ _ _ _ _ _ _ _ _ _ _ _)
   | (with_reducible exact ih6 _ _ _ _ _ _ _ _ _ _ _ _ _ _ _ _ _ _ _ _ _)
   | (with_reducible exact ih7 _ _ _ _ _ _ _ _ _ _ _ _ _ _ _ _ _ _)
   | (with_reducible exact burden_Check.mono _ _ _ _ _)
   | (with_reducible exact burden_Fact.mono _ _ _ _ _ _ _ _ _ _ _ _)
   | (with_reducible exact burden_Find.mono _ _ _ _ _)
   | (with_reducible exact burden_Proof.mono _ _ _ _ _)
   | (with_reducible exact burden_Standing.mono _ _ _ _ _)
   | (with_reducible exact burden_Sums.mono _ _ _ _ _)
   | (with_reducible exact mootlaw4_issueFault.mono _ _ _ _ _)
   | (with_reducible exact mootlaw4_proves.mono _)
   | (with_reducible exact slices_Equal_bool_bool.mono _ _ _)
   | (with_reducible exact LeO.refl _)
   | (with_reducible exact LeO.none _)
   | (with_reducible refine LeO.ite ?_ ?_)
   | (with_reducible refine LeO.bind ?_ (fun _ => ?_))
   | exact ih0 _ _ _ _ _ _ _ _ _ _ _ _ _ _ _ _ _ _ _ _ _ _ _ _ _ _
   | exact ih1 _ _ _ _ _ _ _ _ _ _ _ _ _ _ _ _ _ _ _ _ _ _ _ _ _ _ _ _ _
   | exact ih2 _ _ _ _ _ _ _ _ _ _ _ _ _ _ _ _ _ _ _ _ _ _ _ _ _ _ _ _ _
   | exact ih3 _ _ _ _ _ _ _ _ _ _ _ _ _ _ _ _ _ _ _ _ _ _ _ _ _ _ _ _ _ _ _ _ _ _
   | exact ih4 _ _ _ _ _ _ _ _ _ _ _ _ _ _ _ _ _ _ _ _ _ _ _ _ _ _ _ _ _ _ _ _ _
   | exact ih5 _ _ _ _ _ _ _ _ _ _ _ _ _ _ _ _ _ _ _ _ _ _ _ _ _ _ _ _ _ _ _ _ _
   | exact ih6 _ _ _ _ _ _ _ _ _ _ _ _ _ _ _ _ _ _ _ _ _
   | exact ih7 _ _ _ _ _ _ _ _ _ _ _ _ _ _ _ _ _ _
   | exact burden_Check.mono _ _ _ _ _
   | exact burden_Fact.mono _ _ _ _ _ _ _ _ _ _ _ _
   | exact burden_Find.mono _ _ _ _ _
   | exact burden_Proof.mono _ _ _ _ _
   | exact burden_Standing.mono _ _ _ _ _
   | exact burden_Sums.mono _ _ _ _ _
   | exact mootlaw4_issueFault.mono _ _ _ _ _
   | exact mootlaw4_proves.mono _
   | exact slices_Equal_bool_bool.mono _ _ _
   | exact LeO.none _
   | refine LeO.ite ?_ ?_
   | refine LeO.bind ?_ (fun _ => ?_)
  ·
   intro y0 y1 y2 y3 y4 y5 y6 y7 y8 y9 y10 y11 y12 y13 y14 y15 y16 y17
   unfold mootlaw4_BurdenTells.j7
   repeat' first
   | (with_reducible exact ih0 _ _ _ _ _ _ _ _ _ _ _ _ _ _ _ _ _ _ _ _ _ _ _ _ _ _)
   | (with_reducible exact ih1 _ _ _ _ _ _ _ _ _ _ _ _ _ _ _ _ _ _ _ _ _ _ _ _ _ _ _ _ _)
   | (with_reducible exact ih2 _ _ _ _ _ _ _ _ _ _ _ _ _ _ _ _ _ _ _ _ _ _ _ _ _ _ _ _ _)
   | (with_reducible exact ih3 _ _ _ _ _ _ _ _ _ _ _ _ _ _ _ _ _ _ _ _ _ _ _ _ _ _ _ _ _ _ _ _ _ _)
   | (with_reducible exact ih4 _ _ _ _ _ _ _ _ _ _ _ _ _ _ _ _ _ _ _ _ _ _ _ _ _ _ _ _ _ _ _ _ _)
   | (with_reducible exact ih5 _ _ _ _ _ _ _ _ _ _ _ _ _ _ _ _ _ _ _ _ _ _ _ _ _ _ _ _ _ _ _ _ _)
   | (with_reducible exact ih6 _ _ _ _ _ _ _ _ _ _ _ _ _ _ _ _ _ _ _ _ _)
   | (with_reducible exact ih7 _ _ _ _ _ _ _ _ _ _ _ _ _ _ _ _ _ _)
   | (with_reducible exact burden_Check.mono _ _ _ _ _)
   | (with_reducible exact burden_Fact.mono _ _ _ _ _ _ _ _ _ _ _ _)
   | (with_reducible exact burden_Find.mono _ _ _ _ _)
   | (with_reducible exact burden_Proof.mono _ _ _ _ _)
   | (with_reducible exact burden_Standing.mono _ _ _ _ _)
   | (with_reducible exact burden_Sums.mono _ _ _ _ _)
   | (with_reducible exact mootlaw4_issueFault.mono _ _ _ _ _)
   | (with_reducible exact mootlaw4_proves.mono _)
   | (with_reducible exact slices_Equal_bool_bool.mono _ _ _)
   | (with_reducible exact LeO.refl _)
   | (with_reducible exact LeO.none _)
   | (with_reducible refine LeO.ite ?_ ?_)
   | (with_reducible refine LeO.bind ?_ (fun _ => ?_))
   | exact ih0 _ _ _ _ _ _ _ _ _ _ _ _ _ _ _ _ _ _ _ _ _ _ _ _ _ _
   | exact ih1 _ _ _ _ _ _ _ _ _ _ _ _ _ _ _ _ _ _ _ _ _ _ _ _ _ _ _ _ _
   | exact ih2 _ _ _ _ _ _ _ _ _ _ _ _ _ _ _ _ _ _ _ _ _ _ _ _ _ _ _ _ _
   | exact ih3 _ _ _ _ _ _ _ _ _ _ _ _ _ _ _ _ _ _ _ _ _ _ _ _ _ _ _ _ _ _ _ _ _ _
   | exact ih4 _ _ _ _ _ _ _ _ _ _ _ _ _ _ _ _ _ _ _ _ _ _ _ _ _ _ _ _ _ _ _ _ _
   | exact ih5 _ _ _ _ _ _ _ _ _ _ _ _ _ _ _ _ _ _ _ _ _ _ _ _ _ _ _ _ _ _ _ _ _
   | exact ih6 _ _ _ _ _ _ _ _ _ _ _ _ _ _ _ _ _ _ _ _ _
   | exact ih7 _ _ _ _ _ _ _ _ _ _ _ _ _ _ _ _ _ _
   | exact burden_Check.mono _ _ _ _ _
   | exact burden_Fact.mono _ _ _ _ _ _ _ _ _ _ _ _
   | exact burden_Find.mono _ _ _ _ _
   | exact burden_Proof.mono _ _ _ _ _
   | exact burden_Standing.mono _ _ _ _ _
   | exact burden_Sums.mono _ _ _ _ _
   | exact mootlaw4_issueFault.mono _ _ _ _ _
   | exact mootlaw4_proves.mono _
   | exact slices_Equal_bool_bool.mono _ _ _
   | exact LeO.none _
   | refine LeO.ite ?_ ?_
   | refine LeO.bind ?_ (fun _ => ?_)
theorem mootlaw4_BurdenTells.mono : ∀ a0 a1 a2 a3 a4 a5 a6 a7 a8 a9 a10 k, LeO (mootlaw4_BurdenTells.f k a0 a1 a2 a3 a4 a5 a6 a7 a8 a9 a10) (mootlaw4_BurdenTells.f (k + 1) a0 a1 a2 a3 a4 a5 a6 a7 a8 a9 a10) := by
 intro a0 a1 a2 a3 a4 a5 a6 a7 a8 a9 a10 k
 obtain ⟨ih0, ih1, ih2, ih3, ih4, ih5, ih6, ih7⟩ := mootlaw4_BurdenTells.mono_l k
 unfold mootlaw4_BurdenTells.f
 repeat' first
   | (with_reducible exact ih0 _ _ _ _ _ _ _ _ _ _ _ _ _ _ _ _ _ _ _ _ _ _ _ _ _ _)
   | (with_reducible exact ih1 _ _ _ _ _ _ _ _ _ _ _ _ _ _ _ _ _ _ _ _ _ _ _ _ _ _ _ _ _)
   | (with_reducible exact ih2 _ _ _ _ _ _ _ _ _ _ _ _ _ _ _ _ _ _ _ _ _ _ _ _ _ _ _ _ _)
   | (with_reducible exact ih3 _ _ _ _ _ _ _ _ _ _ _ _ _ _ _ _ _ _ _ _ _ _ _ _ _ _ _ _ _ _ _ _ _ _)
   | (with_reducible exact ih4 _ _ _ _ _ _ _ _ _ _ _ _ _ _ _ _ _ _ _ _ _ _ _ _ _ _ _ _ _ _ _ _ _)
   | (with_reducible exact ih5 _ _ _ _ _ _ _ _ _ _ _ _ _ _ _ _ _ _ _ _ _ _ _ _ _ _ _ _ _ _ _ _ _)
   | (with_reducible exact ih6 _ _ _ _ _ _ _ _ _ _ _ _ _ _ _ _ _ _ _ _ _)
   | (with_reducible exact ih7 _ _ _ _ _ _ _ _ _ _ _ _ _ _ _ _ _ _)
   | (with_reducible exact burden_Check.mono _ _ _ _ _)
   | (with_reducible exact burden_Fact.mono _ _ _ _ _ _ _ _ _ _ _ _)
   | (with_reducible exact burden_Find.mono _ _ _ _ _)
   | (with_reducible exact burden_Proof.mono _ _ _ _ _)
   | (with_reducible exact burden_Standing.mono _ _ _ _ _)
   | (with_reducible exact burden_Sums.mono _ _ _ _ _)
   | (with_reducible exact mootlaw4_issueFault.mono _ _ _ _ _)
   | (with_reducible exact mootlaw4_proves.mono _)
   | (with_reducible exact slices_Equal_bool_bool.mono _ _ _)
   | (with_reducible exact LeO.refl _)
   | (with_reducible exact LeO.none _)
   | (with_reducible refine LeO.ite ?_ ?_)
   | (with_reducible refine LeO.bind ?_ (fun _ => ?_))
   | exact ih0 _ _ _ _ _ _ _ _ _ _ _ _ _ _ _ _ _ _ _ _ _ _ _ _ _ _
   | exact ih1 _ _ _ _ _ _ _ _ _ _ _ _ _ _ _ _ _ _ _ _ _ _ _ _ _ _ _ _ _
   | exact ih2 _ _ _ _ _ _ _ _ _ _ _ _ _ _ _ _ _ _ _ _ _ _ _ _ _ _ _ _ _
   | exact ih3 _ _ _ _ _ _ _ _ _ _ _ _ _ _ _ _ _ _ _ _ _ _ _ _ _ _ _ _ _ _ _ _ _ _
   | exact ih4 _ _ _ _ _ _ _ _ _ _ _ _ _ _ _ _ _ _ _ _ _ _ _ _ _ _ _ _ _ _ _ _ _
   | exact ih5 _ _ _ _ _ _ _ _ _ _ _ _ _ _ _ _ _ _ _ _ _ _ _ _ _ _ _ _ _ _ _ _ _
   | exact ih6 _ _ _ _ _ _ _ _ _ _ _ _ _ _ _ _ _ _ _ _ _
   | exact ih7 _ _ _ _ _ _ _ _ _ _ _ _ _ _ _ _ _ _
   | exact burden_Check.mono _ _ _ _ _
   | exact burden_Fact.mono _ _ _ _ _ _ _ _ _ _ _ _
   | exact burden_Find.mono _ _ _ _ _
   | exact burden_Proof.mono _ _ _ _ _
   | exact burden_Standing.mono _ _ _ _ _
   | exact burden_Sums.mono _ _ _ _ _
   | exact mootlaw4_issueFault.mono _ _ _ _ _
   | exact mootlaw4_proves.mono _
   | exact slices_Equal_bool_bool.mono _ _ _
   | exact LeO.none _
   | refine LeO.ite ?_ ?_
   | refine LeO.bind ?_ (fun _ => ?_)
end Go.Proofs.Ytghnbiknghelpaa.PBtl
