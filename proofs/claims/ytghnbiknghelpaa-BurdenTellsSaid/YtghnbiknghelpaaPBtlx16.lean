-- Printed by this session's wip/myprint.py.
import Derived.Test.YtghnbiknghelpaaPBtlx16a
namespace Go.Proofs.Ytghnbiknghelpaa.PBtl
open Go.RowKit Go.Proofs.YtghnbiknghelpaaW.PrintWords Go.Proofs.YtghnbiknghelpaaW.PrintLast Go.Proofs.YtghnbiknghelpaaW.PrintMore
attribute [local go_sem] max2_int min2_int max_two min_two max_three min_three max_four min_four   -- for this text's walks alone
set_option linter.unusedVariables false
set_option linter.unusedSimpArgs false

attribute [local go_sem high] eqA45
open Go.Proofs.YtghnbiknghelpaaW.PrintWords renaming blk_drewN → qa, blk_drew → qb, blk_alloc → qc, below_set → qd, pw_below_drewN → qe, below_drew1 → qf, below_alloc → qg, blk_frozen → qh, blk_cell → qi
open Go.Proofs.YtghnbiknghelpaaW.PrintWords.Kd renaming R_drewN → qj, R_alloc → qk, R_drew → ql
def mootlaw4_BurdenTells.T17 : Bool × List (List Nat × List Nat) := (true, [([], []), ([], []), ([1], [1]), ([2], [2]), ([0, 3], [0, 3]), ([], []), ([], []), ([6], [6]), ([7], [7]), ([5, 8, 4], [5, 8]), ([4, 9, 0, 1, 2, 3, 4], [0, 4]), ([9, 10, 0, 1, 2, 3, 4, 5, 6, 7, 8, 9, 10], [5, 9])])
def mootlaw4_BurdenTells.B17 : List Nat := [0, 0, 2, 6, 15, 0, 0, 64, 192, 511, 1023, 2047]
theorem mootlaw4_BurdenTells.tab17 : rtab .any (opsOf Try.f6 17) = mootlaw4_BurdenTells.T17 := by kernel_rfl
theorem mootlaw4_BurdenTells.bits17 : waitsOk mootlaw4_BurdenTells.T17.2 mootlaw4_BurdenTells.B17 = true := by kernel_rfl
set_option maxHeartbeats 100000000 in
set_option maxRecDepth 100000 in
theorem mootlaw4_BurdenTells.calls (k : Nat) (a0_0 : Int) (a0_1 : Int) (a0_2 : Int) (A1 : Option Addr) (c1 : Nat) (l1 : List (S34)) (a2_0 : Int) (a2_1 : ByteArray) (a2_2 : Int) (a2_3 : Int) (a2_4 : Int) (a2_5 : Int) (a2_6 : Int) (r : Bool) (w : World) (hr1 : Kd.C k34 w A1 l1.length l1) (hc1 : l1.length ≤ c1) (h : mootlaw4_BurdenTells.f k a0_0 a0_1 a0_2 l1 a2_0 a2_1 a2_2 a2_3 a2_4 a2_5 a2_6 = some r) :
  Calls Try.prog 6 #[.agg #[.int .i64 a0_0, .int .i64 a0_1, .int .i64 a0_2], .slice A1 l1.length c1, .agg #[.int .i64 a2_0, .string a2_1, .int .i64 a2_2, .int .i64 a2_3, .int .i64 a2_4, .int .i64 a2_5, .int .i64 a2_6]] w fun e w' => e = .returned (.bool r) ∧ Below w.heap.size w w' := by
 have hu25 := Try.underlying25
 have hu45 := Try.underlying45
 have hu34 := Try.underlying34
 have hu43 := Try.underlying43
 have HR1 := Aside0.mk hr1
 have HC1 := Aside0.mk hc1
 clear hr1 hc1
 have HB := Aside0.mk (Below.refl w.heap.size w)
 have H : ((mootlaw4_proves.f k).bind fun t151 => (if t151 = true then ((mootlaw4_issueFault.f k a0_0 a0_1 a0_2 l1).bind fun t152 => ((burden_Standing.f k a0_0 a0_1 a0_2 l1).bind fun bt153 => ((burden_Sums.f k a0_0 a0_1 a0_2 l1).bind fun bt157 => ((burden_Proof.f k a0_0 a0_1 a0_2 l1).bind fun bt160 => ((burden_Find.f k a0_0 a0_1 a0_2 l1).bind fun bt162 => ((burden_Fact.f k a0_0 a0_1 a0_2 l1 a2_0 a2_1 a2_2 a2_3 a2_4 a2_5 a2_6).bind fun bt165 => ((burden_Check.f k a0_0 a0_1 a0_2 l1).bind fun t174 => (if t174 = t152 then (if bt153.2 = t152 then (if bt157.2.2 = t152 then (if bt160.2 = t152 then (if bt162.2.2 = t152 then (mootlaw4_BurdenTells.j0 k l1 t152 bt153.1 bt157.1 bt157.2.1 bt160.1 bt162.1 bt162.2.1 (bt165.2.2.2.2.2.2.2 != t152) a0_0 a0_1 a0_2 a2_0 a2_1 a2_2 a2_3 a2_4 a2_5 a2_6 bt165.1 bt165.2.1 bt165.2.2.1 bt165.2.2.2.1 bt165.2.2.2.2.1 bt165.2.2.2.2.2.1 bt165.2.2.2.2.2.2.1) else (mootlaw4_BurdenTells.j0 k l1 t152 bt153.1 bt157.1 bt157.2.1 bt160.1 bt162.1 bt162.2.1 true a0_0 a0_1 a0_2 a2_0 a2_1 a2_2 a2_3 a2_4 a2_5 a2_6 bt165.1 bt165.2.1 bt165.2.2.1 bt165.2.2.2.1 bt165.2.2.2.2.1 bt165.2.2.2.2.2.1 bt165.2.2.2.2.2.2.1)) else (mootlaw4_BurdenTells.j0 k l1 t152 bt153.1 bt157.1 bt157.2.1 bt160.1 bt162.1 bt162.2.1 true a0_0 a0_1 a0_2 a2_0 a2_1 a2_2 a2_3 a2_4 a2_5 a2_6 bt165.1 bt165.2.1 bt165.2.2.1 bt165.2.2.2.1 bt165.2.2.2.2.1 bt165.2.2.2.2.2.1 bt165.2.2.2.2.2.2.1)) else (mootlaw4_BurdenTells.j0 k l1 t152 bt153.1 bt157.1 bt157.2.1 bt160.1 bt162.1 bt162.2.1 true a0_0 a0_1 a0_2 a2_0 a2_1 a2_2 a2_3 a2_4 a2_5 a2_6 bt165.1 bt165.2.1 bt165.2.2.1 bt165.2.2.2.1 bt165.2.2.2.2.1 bt165.2.2.2.2.2.1 bt165.2.2.2.2.2.2.1)) else (mootlaw4_BurdenTells.j0 k l1 t152 bt153.1 bt157.1 bt157.2.1 bt160.1 bt162.1 bt162.2.1 true a0_0 a0_1 a0_2 a2_0 a2_1 a2_2 a2_3 a2_4 a2_5 a2_6 bt165.1 bt165.2.1 bt165.2.2.1 bt165.2.2.2.1 bt165.2.2.2.2.1 bt165.2.2.2.2.2.1 bt165.2.2.2.2.2.2.1)) else (mootlaw4_BurdenTells.j0 k l1 t152 bt153.1 bt157.1 bt157.2.1 bt160.1 bt162.1 bt162.2.1 true a0_0 a0_1 a0_2 a2_0 a2_1 a2_2 a2_3 a2_4 a2_5 a2_6 bt165.1 bt165.2.1 bt165.2.2.1 bt165.2.2.2.1 bt165.2.2.2.2.1 bt165.2.2.2.2.2.1 bt165.2.2.2.2.2.2.1))))))))) else (some false))) = some r := h
 clear h
 replace H := Option.bind_eq_some_iff.mp H
 obtain ⟨t151, A40, H⟩ := H
 replace H : (if t151 = true then ((mootlaw4_issueFault.f k a0_0 a0_1 a0_2 l1).bind fun t152 => ((burden_Standing.f k a0_0 a0_1 a0_2 l1).bind fun bt153 => ((burden_Sums.f k a0_0 a0_1 a0_2 l1).bind fun bt157 => ((burden_Proof.f k a0_0 a0_1 a0_2 l1).bind fun bt160 => ((burden_Find.f k a0_0 a0_1 a0_2 l1).bind fun bt162 => ((burden_Fact.f k a0_0 a0_1 a0_2 l1 a2_0 a2_1 a2_2 a2_3 a2_4 a2_5 a2_6).bind fun bt165 => ((burden_Check.f k a0_0 a0_1 a0_2 l1).bind fun t174 => (if t174 = t152 then (if bt153.2 = t152 then (if bt157.2.2 = t152 then (if bt160.2 = t152 then (if bt162.2.2 = t152 then (mootlaw4_BurdenTells.j0 k l1 t152 bt153.1 bt157.1 bt157.2.1 bt160.1 bt162.1 bt162.2.1 (bt165.2.2.2.2.2.2.2 != t152) a0_0 a0_1 a0_2 a2_0 a2_1 a2_2 a2_3 a2_4 a2_5 a2_6 bt165.1 bt165.2.1 bt165.2.2.1 bt165.2.2.2.1 bt165.2.2.2.2.1 bt165.2.2.2.2.2.1 bt165.2.2.2.2.2.2.1) else (mootlaw4_BurdenTells.j0 k l1 t152 bt153.1 bt157.1 bt157.2.1 bt160.1 bt162.1 bt162.2.1 true a0_0 a0_1 a0_2 a2_0 a2_1 a2_2 a2_3 a2_4 a2_5 a2_6 bt165.1 bt165.2.1 bt165.2.2.1 bt165.2.2.2.1 bt165.2.2.2.2.1 bt165.2.2.2.2.2.1 bt165.2.2.2.2.2.2.1)) else (mootlaw4_BurdenTells.j0 k l1 t152 bt153.1 bt157.1 bt157.2.1 bt160.1 bt162.1 bt162.2.1 true a0_0 a0_1 a0_2 a2_0 a2_1 a2_2 a2_3 a2_4 a2_5 a2_6 bt165.1 bt165.2.1 bt165.2.2.1 bt165.2.2.2.1 bt165.2.2.2.2.1 bt165.2.2.2.2.2.1 bt165.2.2.2.2.2.2.1)) else (mootlaw4_BurdenTells.j0 k l1 t152 bt153.1 bt157.1 bt157.2.1 bt160.1 bt162.1 bt162.2.1 true a0_0 a0_1 a0_2 a2_0 a2_1 a2_2 a2_3 a2_4 a2_5 a2_6 bt165.1 bt165.2.1 bt165.2.2.1 bt165.2.2.2.1 bt165.2.2.2.2.1 bt165.2.2.2.2.2.1 bt165.2.2.2.2.2.2.1)) else (mootlaw4_BurdenTells.j0 k l1 t152 bt153.1 bt157.1 bt157.2.1 bt160.1 bt162.1 bt162.2.1 true a0_0 a0_1 a0_2 a2_0 a2_1 a2_2 a2_3 a2_4 a2_5 a2_6 bt165.1 bt165.2.1 bt165.2.2.1 bt165.2.2.2.1 bt165.2.2.2.2.1 bt165.2.2.2.2.2.1 bt165.2.2.2.2.2.2.1)) else (mootlaw4_BurdenTells.j0 k l1 t152 bt153.1 bt157.1 bt157.2.1 bt160.1 bt162.1 bt162.2.1 true a0_0 a0_1 a0_2 a2_0 a2_1 a2_2 a2_3 a2_4 a2_5 a2_6 bt165.1 bt165.2.1 bt165.2.2.1 bt165.2.2.2.1 bt165.2.2.2.2.1 bt165.2.2.2.2.2.1 bt165.2.2.2.2.2.2.1))))))))) else (some false)) = some r := H
 have A4 := Aside0.mk A40
 clear A40
 by_cases c5 : t151 = true
 ·
  subst c5
  have H1 : ((mootlaw4_issueFault.f k a0_0 a0_1 a0_2 l1).bind fun t152 => ((burden_Standing.f k a0_0 a0_1 a0_2 l1).bind fun bt153 => ((burden_Sums.f k a0_0 a0_1 a0_2 l1).bind fun bt157 => ((burden_Proof.f k a0_0 a0_1 a0_2 l1).bind fun bt160 => ((burden_Find.f k a0_0 a0_1 a0_2 l1).bind fun bt162 => ((burden_Fact.f k a0_0 a0_1 a0_2 l1 a2_0 a2_1 a2_2 a2_3 a2_4 a2_5 a2_6).bind fun bt165 => ((burden_Check.f k a0_0 a0_1 a0_2 l1).bind fun t174 => (if t174 = t152 then (if bt153.2 = t152 then (if bt157.2.2 = t152 then (if bt160.2 = t152 then (if bt162.2.2 = t152 then (mootlaw4_BurdenTells.j0 k l1 t152 bt153.1 bt157.1 bt157.2.1 bt160.1 bt162.1 bt162.2.1 (bt165.2.2.2.2.2.2.2 != t152) a0_0 a0_1 a0_2 a2_0 a2_1 a2_2 a2_3 a2_4 a2_5 a2_6 bt165.1 bt165.2.1 bt165.2.2.1 bt165.2.2.2.1 bt165.2.2.2.2.1 bt165.2.2.2.2.2.1 bt165.2.2.2.2.2.2.1) else (mootlaw4_BurdenTells.j0 k l1 t152 bt153.1 bt157.1 bt157.2.1 bt160.1 bt162.1 bt162.2.1 true a0_0 a0_1 a0_2 a2_0 a2_1 a2_2 a2_3 a2_4 a2_5 a2_6 bt165.1 bt165.2.1 bt165.2.2.1 bt165.2.2.2.1 bt165.2.2.2.2.1 bt165.2.2.2.2.2.1 bt165.2.2.2.2.2.2.1)) else (mootlaw4_BurdenTells.j0 k l1 t152 bt153.1 bt157.1 bt157.2.1 bt160.1 bt162.1 bt162.2.1 true a0_0 a0_1 a0_2 a2_0 a2_1 a2_2 a2_3 a2_4 a2_5 a2_6 bt165.1 bt165.2.1 bt165.2.2.1 bt165.2.2.2.1 bt165.2.2.2.2.1 bt165.2.2.2.2.2.1 bt165.2.2.2.2.2.2.1)) else (mootlaw4_BurdenTells.j0 k l1 t152 bt153.1 bt157.1 bt157.2.1 bt160.1 bt162.1 bt162.2.1 true a0_0 a0_1 a0_2 a2_0 a2_1 a2_2 a2_3 a2_4 a2_5 a2_6 bt165.1 bt165.2.1 bt165.2.2.1 bt165.2.2.2.1 bt165.2.2.2.2.1 bt165.2.2.2.2.2.1 bt165.2.2.2.2.2.2.1)) else (mootlaw4_BurdenTells.j0 k l1 t152 bt153.1 bt157.1 bt157.2.1 bt160.1 bt162.1 bt162.2.1 true a0_0 a0_1 a0_2 a2_0 a2_1 a2_2 a2_3 a2_4 a2_5 a2_6 bt165.1 bt165.2.1 bt165.2.2.1 bt165.2.2.2.1 bt165.2.2.2.2.1 bt165.2.2.2.2.2.1 bt165.2.2.2.2.2.2.1)) else (mootlaw4_BurdenTells.j0 k l1 t152 bt153.1 bt157.1 bt157.2.1 bt160.1 bt162.1 bt162.2.1 true a0_0 a0_1 a0_2 a2_0 a2_1 a2_2 a2_3 a2_4 a2_5 a2_6 bt165.1 bt165.2.1 bt165.2.2.1 bt165.2.2.2.1 bt165.2.2.2.2.1 bt165.2.2.2.2.2.1 bt165.2.2.2.2.2.2.1))))))))) = some r := by rw [if_pos rfl] at H; exact H
  clear H
  have H := H1
  clear H1
  replace H := Option.bind_eq_some_iff.mp H
  obtain ⟨t152, A60, H⟩ := H
  replace H : ((burden_Standing.f k a0_0 a0_1 a0_2 l1).bind fun bt153 => ((burden_Sums.f k a0_0 a0_1 a0_2 l1).bind fun bt157 => ((burden_Proof.f k a0_0 a0_1 a0_2 l1).bind fun bt160 => ((burden_Find.f k a0_0 a0_1 a0_2 l1).bind fun bt162 => ((burden_Fact.f k a0_0 a0_1 a0_2 l1 a2_0 a2_1 a2_2 a2_3 a2_4 a2_5 a2_6).bind fun bt165 => ((burden_Check.f k a0_0 a0_1 a0_2 l1).bind fun t174 => (if t174 = t152 then (if bt153.2 = t152 then (if bt157.2.2 = t152 then (if bt160.2 = t152 then (if bt162.2.2 = t152 then (mootlaw4_BurdenTells.j0 k l1 t152 bt153.1 bt157.1 bt157.2.1 bt160.1 bt162.1 bt162.2.1 (bt165.2.2.2.2.2.2.2 != t152) a0_0 a0_1 a0_2 a2_0 a2_1 a2_2 a2_3 a2_4 a2_5 a2_6 bt165.1 bt165.2.1 bt165.2.2.1 bt165.2.2.2.1 bt165.2.2.2.2.1 bt165.2.2.2.2.2.1 bt165.2.2.2.2.2.2.1) else (mootlaw4_BurdenTells.j0 k l1 t152 bt153.1 bt157.1 bt157.2.1 bt160.1 bt162.1 bt162.2.1 true a0_0 a0_1 a0_2 a2_0 a2_1 a2_2 a2_3 a2_4 a2_5 a2_6 bt165.1 bt165.2.1 bt165.2.2.1 bt165.2.2.2.1 bt165.2.2.2.2.1 bt165.2.2.2.2.2.1 bt165.2.2.2.2.2.2.1)) else (mootlaw4_BurdenTells.j0 k l1 t152 bt153.1 bt157.1 bt157.2.1 bt160.1 bt162.1 bt162.2.1 true a0_0 a0_1 a0_2 a2_0 a2_1 a2_2 a2_3 a2_4 a2_5 a2_6 bt165.1 bt165.2.1 bt165.2.2.1 bt165.2.2.2.1 bt165.2.2.2.2.1 bt165.2.2.2.2.2.1 bt165.2.2.2.2.2.2.1)) else (mootlaw4_BurdenTells.j0 k l1 t152 bt153.1 bt157.1 bt157.2.1 bt160.1 bt162.1 bt162.2.1 true a0_0 a0_1 a0_2 a2_0 a2_1 a2_2 a2_3 a2_4 a2_5 a2_6 bt165.1 bt165.2.1 bt165.2.2.1 bt165.2.2.2.1 bt165.2.2.2.2.1 bt165.2.2.2.2.2.1 bt165.2.2.2.2.2.2.1)) else (mootlaw4_BurdenTells.j0 k l1 t152 bt153.1 bt157.1 bt157.2.1 bt160.1 bt162.1 bt162.2.1 true a0_0 a0_1 a0_2 a2_0 a2_1 a2_2 a2_3 a2_4 a2_5 a2_6 bt165.1 bt165.2.1 bt165.2.2.1 bt165.2.2.2.1 bt165.2.2.2.2.1 bt165.2.2.2.2.2.1 bt165.2.2.2.2.2.2.1)) else (mootlaw4_BurdenTells.j0 k l1 t152 bt153.1 bt157.1 bt157.2.1 bt160.1 bt162.1 bt162.2.1 true a0_0 a0_1 a0_2 a2_0 a2_1 a2_2 a2_3 a2_4 a2_5 a2_6 bt165.1 bt165.2.1 bt165.2.2.1 bt165.2.2.2.1 bt165.2.2.2.2.1 bt165.2.2.2.2.2.1 bt165.2.2.2.2.2.2.1)))))))) = some r := H
  have A6 := Aside0.mk A60
  clear A60
  replace H := Option.bind_eq_some_iff.mp H
  obtain ⟨⟨t153, t156⟩, A70, H⟩ := H
  replace H : ((burden_Sums.f k a0_0 a0_1 a0_2 l1).bind fun bt157 => ((burden_Proof.f k a0_0 a0_1 a0_2 l1).bind fun bt160 => ((burden_Find.f k a0_0 a0_1 a0_2 l1).bind fun bt162 => ((burden_Fact.f k a0_0 a0_1 a0_2 l1 a2_0 a2_1 a2_2 a2_3 a2_4 a2_5 a2_6).bind fun bt165 => ((burden_Check.f k a0_0 a0_1 a0_2 l1).bind fun t174 => (if t174 = t152 then (if t156 = t152 then (if bt157.2.2 = t152 then (if bt160.2 = t152 then (if bt162.2.2 = t152 then (mootlaw4_BurdenTells.j0 k l1 t152 t153 bt157.1 bt157.2.1 bt160.1 bt162.1 bt162.2.1 (bt165.2.2.2.2.2.2.2 != t152) a0_0 a0_1 a0_2 a2_0 a2_1 a2_2 a2_3 a2_4 a2_5 a2_6 bt165.1 bt165.2.1 bt165.2.2.1 bt165.2.2.2.1 bt165.2.2.2.2.1 bt165.2.2.2.2.2.1 bt165.2.2.2.2.2.2.1) else (mootlaw4_BurdenTells.j0 k l1 t152 t153 bt157.1 bt157.2.1 bt160.1 bt162.1 bt162.2.1 true a0_0 a0_1 a0_2 a2_0 a2_1 a2_2 a2_3 a2_4 a2_5 a2_6 bt165.1 bt165.2.1 bt165.2.2.1 bt165.2.2.2.1 bt165.2.2.2.2.1 bt165.2.2.2.2.2.1 bt165.2.2.2.2.2.2.1)) else (mootlaw4_BurdenTells.j0 k l1 t152 t153 bt157.1 bt157.2.1 bt160.1 bt162.1 bt162.2.1 true a0_0 a0_1 a0_2 a2_0 a2_1 a2_2 a2_3 a2_4 a2_5 a2_6 bt165.1 bt165.2.1 bt165.2.2.1 bt165.2.2.2.1 bt165.2.2.2.2.1 bt165.2.2.2.2.2.1 bt165.2.2.2.2.2.2.1)) else (mootlaw4_BurdenTells.j0 k l1 t152 t153 bt157.1 bt157.2.1 bt160.1 bt162.1 bt162.2.1 true a0_0 a0_1 a0_2 a2_0 a2_1 a2_2 a2_3 a2_4 a2_5 a2_6 bt165.1 bt165.2.1 bt165.2.2.1 bt165.2.2.2.1 bt165.2.2.2.2.1 bt165.2.2.2.2.2.1 bt165.2.2.2.2.2.2.1)) else (mootlaw4_BurdenTells.j0 k l1 t152 t153 bt157.1 bt157.2.1 bt160.1 bt162.1 bt162.2.1 true a0_0 a0_1 a0_2 a2_0 a2_1 a2_2 a2_3 a2_4 a2_5 a2_6 bt165.1 bt165.2.1 bt165.2.2.1 bt165.2.2.2.1 bt165.2.2.2.2.1 bt165.2.2.2.2.2.1 bt165.2.2.2.2.2.2.1)) else (mootlaw4_BurdenTells.j0 k l1 t152 t153 bt157.1 bt157.2.1 bt160.1 bt162.1 bt162.2.1 true a0_0 a0_1 a0_2 a2_0 a2_1 a2_2 a2_3 a2_4 a2_5 a2_6 bt165.1 bt165.2.1 bt165.2.2.1 bt165.2.2.2.1 bt165.2.2.2.2.1 bt165.2.2.2.2.2.1 bt165.2.2.2.2.2.2.1))))))) = some r := H
  have A7 := Aside0.mk A70
  clear A70
  replace H := Option.bind_eq_some_iff.mp H
  obtain ⟨⟨t157, t158, t159⟩, A80, H⟩ := H
  replace H : ((burden_Proof.f k a0_0 a0_1 a0_2 l1).bind fun bt160 => ((burden_Find.f k a0_0 a0_1 a0_2 l1).bind fun bt162 => ((burden_Fact.f k a0_0 a0_1 a0_2 l1 a2_0 a2_1 a2_2 a2_3 a2_4 a2_5 a2_6).bind fun bt165 => ((burden_Check.f k a0_0 a0_1 a0_2 l1).bind fun t174 => (if t174 = t152 then (if t156 = t152 then (if t159 = t152 then (if bt160.2 = t152 then (if bt162.2.2 = t152 then (mootlaw4_BurdenTells.j0 k l1 t152 t153 t157 t158 bt160.1 bt162.1 bt162.2.1 (bt165.2.2.2.2.2.2.2 != t152) a0_0 a0_1 a0_2 a2_0 a2_1 a2_2 a2_3 a2_4 a2_5 a2_6 bt165.1 bt165.2.1 bt165.2.2.1 bt165.2.2.2.1 bt165.2.2.2.2.1 bt165.2.2.2.2.2.1 bt165.2.2.2.2.2.2.1) else (mootlaw4_BurdenTells.j0 k l1 t152 t153 t157 t158 bt160.1 bt162.1 bt162.2.1 true a0_0 a0_1 a0_2 a2_0 a2_1 a2_2 a2_3 a2_4 a2_5 a2_6 bt165.1 bt165.2.1 bt165.2.2.1 bt165.2.2.2.1 bt165.2.2.2.2.1 bt165.2.2.2.2.2.1 bt165.2.2.2.2.2.2.1)) else (mootlaw4_BurdenTells.j0 k l1 t152 t153 t157 t158 bt160.1 bt162.1 bt162.2.1 true a0_0 a0_1 a0_2 a2_0 a2_1 a2_2 a2_3 a2_4 a2_5 a2_6 bt165.1 bt165.2.1 bt165.2.2.1 bt165.2.2.2.1 bt165.2.2.2.2.1 bt165.2.2.2.2.2.1 bt165.2.2.2.2.2.2.1)) else (mootlaw4_BurdenTells.j0 k l1 t152 t153 t157 t158 bt160.1 bt162.1 bt162.2.1 true a0_0 a0_1 a0_2 a2_0 a2_1 a2_2 a2_3 a2_4 a2_5 a2_6 bt165.1 bt165.2.1 bt165.2.2.1 bt165.2.2.2.1 bt165.2.2.2.2.1 bt165.2.2.2.2.2.1 bt165.2.2.2.2.2.2.1)) else (mootlaw4_BurdenTells.j0 k l1 t152 t153 t157 t158 bt160.1 bt162.1 bt162.2.1 true a0_0 a0_1 a0_2 a2_0 a2_1 a2_2 a2_3 a2_4 a2_5 a2_6 bt165.1 bt165.2.1 bt165.2.2.1 bt165.2.2.2.1 bt165.2.2.2.2.1 bt165.2.2.2.2.2.1 bt165.2.2.2.2.2.2.1)) else (mootlaw4_BurdenTells.j0 k l1 t152 t153 t157 t158 bt160.1 bt162.1 bt162.2.1 true a0_0 a0_1 a0_2 a2_0 a2_1 a2_2 a2_3 a2_4 a2_5 a2_6 bt165.1 bt165.2.1 bt165.2.2.1 bt165.2.2.2.1 bt165.2.2.2.2.1 bt165.2.2.2.2.2.1 bt165.2.2.2.2.2.2.1)))))) = some r := H
  have A8 := Aside0.mk A80
  clear A80
  replace H := Option.bind_eq_some_iff.mp H
  obtain ⟨⟨t160, t161⟩, A90, H⟩ := H
  replace H : ((burden_Find.f k a0_0 a0_1 a0_2 l1).bind fun bt162 => ((burden_Fact.f k a0_0 a0_1 a0_2 l1 a2_0 a2_1 a2_2 a2_3 a2_4 a2_5 a2_6).bind fun bt165 => ((burden_Check.f k a0_0 a0_1 a0_2 l1).bind fun t174 => (if t174 = t152 then (if t156 = t152 then (if t159 = t152 then (if t161 = t152 then (if bt162.2.2 = t152 then (mootlaw4_BurdenTells.j0 k l1 t152 t153 t157 t158 t160 bt162.1 bt162.2.1 (bt165.2.2.2.2.2.2.2 != t152) a0_0 a0_1 a0_2 a2_0 a2_1 a2_2 a2_3 a2_4 a2_5 a2_6 bt165.1 bt165.2.1 bt165.2.2.1 bt165.2.2.2.1 bt165.2.2.2.2.1 bt165.2.2.2.2.2.1 bt165.2.2.2.2.2.2.1) else (mootlaw4_BurdenTells.j0 k l1 t152 t153 t157 t158 t160 bt162.1 bt162.2.1 true a0_0 a0_1 a0_2 a2_0 a2_1 a2_2 a2_3 a2_4 a2_5 a2_6 bt165.1 bt165.2.1 bt165.2.2.1 bt165.2.2.2.1 bt165.2.2.2.2.1 bt165.2.2.2.2.2.1 bt165.2.2.2.2.2.2.1)) else (mootlaw4_BurdenTells.j0 k l1 t152 t153 t157 t158 t160 bt162.1 bt162.2.1 true a0_0 a0_1 a0_2 a2_0 a2_1 a2_2 a2_3 a2_4 a2_5 a2_6 bt165.1 bt165.2.1 bt165.2.2.1 bt165.2.2.2.1 bt165.2.2.2.2.1 bt165.2.2.2.2.2.1 bt165.2.2.2.2.2.2.1)) else (mootlaw4_BurdenTells.j0 k l1 t152 t153 t157 t158 t160 bt162.1 bt162.2.1 true a0_0 a0_1 a0_2 a2_0 a2_1 a2_2 a2_3 a2_4 a2_5 a2_6 bt165.1 bt165.2.1 bt165.2.2.1 bt165.2.2.2.1 bt165.2.2.2.2.1 bt165.2.2.2.2.2.1 bt165.2.2.2.2.2.2.1)) else (mootlaw4_BurdenTells.j0 k l1 t152 t153 t157 t158 t160 bt162.1 bt162.2.1 true a0_0 a0_1 a0_2 a2_0 a2_1 a2_2 a2_3 a2_4 a2_5 a2_6 bt165.1 bt165.2.1 bt165.2.2.1 bt165.2.2.2.1 bt165.2.2.2.2.1 bt165.2.2.2.2.2.1 bt165.2.2.2.2.2.2.1)) else (mootlaw4_BurdenTells.j0 k l1 t152 t153 t157 t158 t160 bt162.1 bt162.2.1 true a0_0 a0_1 a0_2 a2_0 a2_1 a2_2 a2_3 a2_4 a2_5 a2_6 bt165.1 bt165.2.1 bt165.2.2.1 bt165.2.2.2.1 bt165.2.2.2.2.1 bt165.2.2.2.2.2.1 bt165.2.2.2.2.2.2.1))))) = some r := H
  have A9 := Aside0.mk A90
  clear A90
  replace H := Option.bind_eq_some_iff.mp H
  obtain ⟨⟨t162, t163, t164⟩, A100, H⟩ := H
  replace H : ((burden_Fact.f k a0_0 a0_1 a0_2 l1 a2_0 a2_1 a2_2 a2_3 a2_4 a2_5 a2_6).bind fun bt165 => ((burden_Check.f k a0_0 a0_1 a0_2 l1).bind fun t174 => (if t174 = t152 then (if t156 = t152 then (if t159 = t152 then (if t161 = t152 then (if t164 = t152 then (mootlaw4_BurdenTells.j0 k l1 t152 t153 t157 t158 t160 t162 t163 (bt165.2.2.2.2.2.2.2 != t152) a0_0 a0_1 a0_2 a2_0 a2_1 a2_2 a2_3 a2_4 a2_5 a2_6 bt165.1 bt165.2.1 bt165.2.2.1 bt165.2.2.2.1 bt165.2.2.2.2.1 bt165.2.2.2.2.2.1 bt165.2.2.2.2.2.2.1) else (mootlaw4_BurdenTells.j0 k l1 t152 t153 t157 t158 t160 t162 t163 true a0_0 a0_1 a0_2 a2_0 a2_1 a2_2 a2_3 a2_4 a2_5 a2_6 bt165.1 bt165.2.1 bt165.2.2.1 bt165.2.2.2.1 bt165.2.2.2.2.1 bt165.2.2.2.2.2.1 bt165.2.2.2.2.2.2.1)) else (mootlaw4_BurdenTells.j0 k l1 t152 t153 t157 t158 t160 t162 t163 true a0_0 a0_1 a0_2 a2_0 a2_1 a2_2 a2_3 a2_4 a2_5 a2_6 bt165.1 bt165.2.1 bt165.2.2.1 bt165.2.2.2.1 bt165.2.2.2.2.1 bt165.2.2.2.2.2.1 bt165.2.2.2.2.2.2.1)) else (mootlaw4_BurdenTells.j0 k l1 t152 t153 t157 t158 t160 t162 t163 true a0_0 a0_1 a0_2 a2_0 a2_1 a2_2 a2_3 a2_4 a2_5 a2_6 bt165.1 bt165.2.1 bt165.2.2.1 bt165.2.2.2.1 bt165.2.2.2.2.1 bt165.2.2.2.2.2.1 bt165.2.2.2.2.2.2.1)) else (mootlaw4_BurdenTells.j0 k l1 t152 t153 t157 t158 t160 t162 t163 true a0_0 a0_1 a0_2 a2_0 a2_1 a2_2 a2_3 a2_4 a2_5 a2_6 bt165.1 bt165.2.1 bt165.2.2.1 bt165.2.2.2.1 bt165.2.2.2.2.1 bt165.2.2.2.2.2.1 bt165.2.2.2.2.2.2.1)) else (mootlaw4_BurdenTells.j0 k l1 t152 t153 t157 t158 t160 t162 t163 true a0_0 a0_1 a0_2 a2_0 a2_1 a2_2 a2_3 a2_4 a2_5 a2_6 bt165.1 bt165.2.1 bt165.2.2.1 bt165.2.2.2.1 bt165.2.2.2.2.1 bt165.2.2.2.2.2.1 bt165.2.2.2.2.2.2.1)))) = some r := H
  have A10 := Aside0.mk A100
  clear A100
  replace H := Option.bind_eq_some_iff.mp H
  obtain ⟨⟨t165, t166, t167, t168, t169, t170, t171, t172⟩, A110, H⟩ := H
  replace H : ((burden_Check.f k a0_0 a0_1 a0_2 l1).bind fun t174 => (if t174 = t152 then (if t156 = t152 then (if t159 = t152 then (if t161 = t152 then (if t164 = t152 then (mootlaw4_BurdenTells.j0 k l1 t152 t153 t157 t158 t160 t162 t163 (t172 != t152) a0_0 a0_1 a0_2 a2_0 a2_1 a2_2 a2_3 a2_4 a2_5 a2_6 t165 t166 t167 t168 t169 t170 t171) else (mootlaw4_BurdenTells.j0 k l1 t152 t153 t157 t158 t160 t162 t163 true a0_0 a0_1 a0_2 a2_0 a2_1 a2_2 a2_3 a2_4 a2_5 a2_6 t165 t166 t167 t168 t169 t170 t171)) else (mootlaw4_BurdenTells.j0 k l1 t152 t153 t157 t158 t160 t162 t163 true a0_0 a0_1 a0_2 a2_0 a2_1 a2_2 a2_3 a2_4 a2_5 a2_6 t165 t166 t167 t168 t169 t170 t171)) else (mootlaw4_BurdenTells.j0 k l1 t152 t153 t157 t158 t160 t162 t163 true a0_0 a0_1 a0_2 a2_0 a2_1 a2_2 a2_3 a2_4 a2_5 a2_6 t165 t166 t167 t168 t169 t170 t171)) else (mootlaw4_BurdenTells.j0 k l1 t152 t153 t157 t158 t160 t162 t163 true a0_0 a0_1 a0_2 a2_0 a2_1 a2_2 a2_3 a2_4 a2_5 a2_6 t165 t166 t167 t168 t169 t170 t171)) else (mootlaw4_BurdenTells.j0 k l1 t152 t153 t157 t158 t160 t162 t163 true a0_0 a0_1 a0_2 a2_0 a2_1 a2_2 a2_3 a2_4 a2_5 a2_6 t165 t166 t167 t168 t169 t170 t171))) = some r := H
  have A11 := Aside0.mk A110
  clear A110
  have HC12 := Aside0.mk H
  clear H
  go_enter Try.func6, Try.ntmps6
  go_upto_region 9 with (first | ((with_reducible refine gate_dst (N := 3) rfl ?_); refine box_event ?hg (N := 3) ?hd (cs := #[.int .i64 a0_0, .int .i64 a0_1, .int .i64 a0_2]) (t := 25) ?hr ?_; (case hd => rfl); (case hg => rfl); (case hr => first | (go_simp; done) | (go_simp; rfl)); intro gb149 hg w13 hbox hb; have n0_ := Aside0.mk (below_step (by repeat (first | (with_reducible first | exact HB.out | apply qg | apply qe | apply qf) | exact HB.out)) hb); have n1_ := Aside0.mk (hbox); have n2_ := Aside0.mk ((by rw [hg]; exact (below_size (by repeat (first | (with_reducible first | exact HB.out | apply qg | apply qe | apply qf) | exact HB.out))) : w.heap.size ≤ gb149)); have n3_ := Aside0.mk ((by rw [hg]; exact (below_size (by repeat (first | (with_reducible first | exact HB.out | apply qg | apply qe | apply qf) | exact HB.out))) : w.heap.size ≤ gb149)); clear HB; have HB := n0_; have Ka := n1_; have GW149 := n2_; have Ga := n3_; clear n0_ n1_ n2_ n3_; clear hb hbox hg) | ((with_reducible refine gate_dst (N := 5) rfl ?_); refine box_event ?hg (N := 5) ?hd (cs := #[.int .i64 a2_0, .string a2_1, .int .i64 a2_2, .int .i64 a2_3, .int .i64 a2_4, .int .i64 a2_5, .int .i64 a2_6]) (t := 45) ?hr ?_; (case hd => rfl); (case hg => rfl); (case hr => first | (go_simp; done) | (go_simp; rfl)); intro gb150 hg w14 hbox hb; have n0_ := Aside0.mk (blk_below (g := gb149) (o := .cells #[.int .i64 a0_0, .int .i64 a0_1, .int .i64 a0_2] 25 (0, 0)) (by (with_reducible repeat (first | refine qa ?_ _ | refine qb ?_ | refine qc ?_ _)); exact Ka.out) hb); have n1_ := Aside0.mk (below_step (by repeat (first | (with_reducible first | exact HB.out | apply qg | apply qe | apply qf | refine qd ?_ Ga.out) | exact HB.out)) hb); have n2_ := Aside0.mk (hbox); have n3_ := Aside0.mk ((by rw [hg]; exact (below_size (by repeat (first | (with_reducible first | exact HB.out | apply qg | apply qe | apply qf | refine qd ?_ Ga.out) | exact HB.out))) : w.heap.size ≤ gb150)); have n4_ := Aside0.mk ((by rw [hg]; exact (below_size (by repeat (first | (with_reducible first | exact HB.out | apply qg | apply qe | apply qf | refine qd ?_ Ga.out) | exact HB.out))) : w.heap.size ≤ gb150)); have n5_ := Aside0.mk ((by rw [hg]; exact Nat.ne_of_lt (blk_lt (g := gb149) (o := .cells #[.int .i64 a0_0, .int .i64 a0_1, .int .i64 a0_2] 25 (0, 0)) (by (with_reducible repeat (first | refine qa ?_ _ | refine qb ?_ | refine qc ?_ _)); exact Ka.out)) : gb149 ≠ gb150)); have n6_ := Aside0.mk ((by rw [hg]; exact Nat.ne_of_gt (blk_lt (g := gb149) (o := .cells #[.int .i64 a0_0, .int .i64 a0_1, .int .i64 a0_2] 25 (0, 0)) (by (with_reducible repeat (first | refine qa ?_ _ | refine qb ?_ | refine qc ?_ _)); exact Ka.out)) : gb150 ≠ gb149)); clear Ka; clear HB; have Ka := n0_; have HB := n1_; have Kb := n2_; have GW150 := n3_; have Gb := n4_; have Ne := n5_; have Nf := n6_; clear n0_ n1_ n2_ n3_ n4_ n5_ n6_; clear hb hbox hg) | ((with_reducible refine gate_callee (f := 20) rfl ?_); refine goesL_ (some 31) rfl rfl Try.func20 (by kernel_rfl) rfl #[] rfl (by (try simp only [List.map_toArray, List.map_cons, List.map_nil]); first | done | rfl | (simp only [List.length_drop, List.length_take]; rfl)) ?_; (with_reducible refine (mootlaw4_proves.calls k  true _ A4.out).mono ?_); rintro e w15 ⟨rfl, hb⟩; refine ⟨_, rfl, ?_⟩; have n0_ := Aside0.mk (blk_below (g := gb149) (o := .cells #[.int .i64 a0_0, .int .i64 a0_1, .int .i64 a0_2] 25 (0, 0)) (by (with_reducible repeat (first | refine qa ?_ _ | refine qb ?_ | refine qc ?_ _)); exact Ka.out) hb); have n1_ := Aside0.mk (blk_below (g := gb150) (o := .cells #[.int .i64 a2_0, .string a2_1, .int .i64 a2_2, .int .i64 a2_3, .int .i64 a2_4, .int .i64 a2_5, .int .i64 a2_6] 45 (0, 0)) (by (with_reducible repeat (first | refine qa ?_ _ | refine qb ?_ | refine qc ?_ _)); exact Kb.out) hb); have n2_ := Aside0.mk (below_step (by repeat (first | (with_reducible first | exact HB.out | apply qg | apply qe | apply qf | refine qd ?_ Ga.out | refine qd ?_ Gb.out) | exact HB.out)) hb); clear Ka; clear Kb; clear HB; have Ka := n0_; have Kb := n1_; have HB := n2_; clear n0_ n1_ n2_; (try clear hb); (try clear hb2); (try clear hk); (try clear hi); have hnb16 := Ne.out; have hnc16 := Nf.out; have hcz17_0 : w15.cell? ⟨gb149, 0, none⟩ = some (.int .i64 a0_0) := (qi Ka.out 0).trans rfl; have hcz17_1 : w15.cell? ⟨gb149, 1, none⟩ = some (.int .i64 a0_1) := (qi Ka.out 1).trans rfl; have hcz17_2 : w15.cell? ⟨gb149, 2, none⟩ = some (.int .i64 a0_2) := (qi Ka.out 2).trans rfl; have hfz17_0 := qh Ka.out 0; have hfz17_1 := qh Ka.out 1; have hfz17_2 := qh Ka.out 2) | ((with_reducible refine gate_callee (f := 21) rfl ?_); refine goesL_ (some 35) rfl rfl Try.func21 (by kernel_rfl) rfl #[.agg #[.int .i64 a0_0, .int .i64 a0_1, .int .i64 a0_2], .slice A1 l1.length c1] rfl (by (try simp only [List.map_toArray, List.map_cons, List.map_nil]); first | done | rfl | (simp only [List.length_drop, List.length_take]; rfl)) ?_; (with_reducible refine (mootlaw4_issueFault.calls k a0_0 a0_1 a0_2 _ _ l1 t152 _ ?side1 ?side2 A6.out).mono ?_); (case side1 => repeat (first | exact (Kd.C_below HR1.out HB.out) | (with_reducible refine Kd.C_alloc ?_ _) | (with_reducible refine Kd.C_drewN ?_ _) | (with_reducible refine Kd.C_drew ?_))); (case side2 => exact HC1.out); rintro e w18 ⟨rfl, hb⟩; refine ⟨_, rfl, ?_⟩; have n0_ := Aside0.mk (blk_below (g := gb149) (o := .cells #[.int .i64 a0_0, .int .i64 a0_1, .int .i64 a0_2] 25 (0, 0)) (by (with_reducible repeat (first | refine qa ?_ _ | refine qb ?_ | refine qc ?_ _)); exact Ka.out) hb); have n1_ := Aside0.mk (blk_below (g := gb150) (o := .cells #[.int .i64 a2_0, .string a2_1, .int .i64 a2_2, .int .i64 a2_3, .int .i64 a2_4, .int .i64 a2_5, .int .i64 a2_6] 45 (0, 0)) (by (with_reducible repeat (first | refine qa ?_ _ | refine qb ?_ | refine qc ?_ _)); exact Kb.out) hb); have n2_ := Aside0.mk (below_step (by repeat (first | (with_reducible first | exact HB.out | apply qg | apply qe | apply qf | refine qd ?_ Ga.out | refine qd ?_ Gb.out) | exact HB.out)) hb); clear Ka; clear Kb; clear HB; have Ka := n0_; have Kb := n1_; have HB := n2_; clear n0_ n1_ n2_; (try clear hb); (try clear hb2); (try clear hk); (try clear hi); have hcz19_0 : w18.cell? ⟨gb149, 0, none⟩ = some (.int .i64 a0_0) := (qi Ka.out 0).trans rfl; have hcz19_1 : w18.cell? ⟨gb149, 1, none⟩ = some (.int .i64 a0_1) := (qi Ka.out 1).trans rfl; have hcz19_2 : w18.cell? ⟨gb149, 2, none⟩ = some (.int .i64 a0_2) := (qi Ka.out 2).trans rfl; have hfz19_0 := qh Ka.out 0; have hfz19_1 := qh Ka.out 1; have hfz19_2 := qh Ka.out 2) | ((with_reducible refine gate_callee (f := 17) rfl ?_); refine goesL_ (some 39) rfl rfl Try.func17 (by kernel_rfl) rfl #[.agg #[.int .i64 a0_0, .int .i64 a0_1, .int .i64 a0_2], .slice A1 l1.length c1] rfl (by (try simp only [List.map_toArray, List.map_cons, List.map_nil]); first | done | rfl | (simp only [List.length_drop, List.length_take]; rfl)) ?_; (with_reducible refine (burden_Standing.calls k a0_0 a0_1 a0_2 _ _ l1 t153 t156 _ ?side1 ?side2 A7.out).mono ?_); (case side1 => repeat (first | exact (Kd.C_below HR1.out HB.out) | (with_reducible refine Kd.C_alloc ?_ _) | (with_reducible refine Kd.C_drewN ?_ _) | (with_reducible refine Kd.C_drew ?_))); (case side2 => exact HC1.out); rintro e w20 ⟨v154, rfl, ho0, hb⟩; refine ⟨_, rfl, ?_⟩; have n0_ := Aside0.mk (Kd.R_lower ho0 (below_size (by repeat (first | (with_reducible first | exact HB.out | apply qg | apply qe | apply qf | refine qd ?_ Ga.out | refine qd ?_ Gb.out) | exact HB.out)))); have n1_ := Aside0.mk (blk_below (g := gb149) (o := .cells #[.int .i64 a0_0, .int .i64 a0_1, .int .i64 a0_2] 25 (0, 0)) (by (with_reducible repeat (first | refine qa ?_ _ | refine qb ?_ | refine qc ?_ _)); exact Ka.out) hb); have n2_ := Aside0.mk (blk_below (g := gb150) (o := .cells #[.int .i64 a2_0, .string a2_1, .int .i64 a2_2, .int .i64 a2_3, .int .i64 a2_4, .int .i64 a2_5, .int .i64 a2_6] 45 (0, 0)) (by (with_reducible repeat (first | refine qa ?_ _ | refine qb ?_ | refine qc ?_ _)); exact Kb.out) hb); have n3_ := Aside0.mk (below_step (by repeat (first | (with_reducible first | exact HB.out | apply qg | apply qe | apply qf | refine qd ?_ Ga.out | refine qd ?_ Gb.out) | exact HB.out)) hb); clear Ka; clear Kb; clear HB; have HO155 := n0_; have Ka := n1_; have Kb := n2_; have HB := n3_; clear n0_ n1_ n2_ n3_; (try clear hb); (try clear hb2); (try clear hk); (try clear hi); (try clear ho0); have hcz21_0 : w20.cell? ⟨gb149, 0, none⟩ = some (.int .i64 a0_0) := (qi Ka.out 0).trans rfl; have hcz21_1 : w20.cell? ⟨gb149, 1, none⟩ = some (.int .i64 a0_1) := (qi Ka.out 1).trans rfl; have hcz21_2 : w20.cell? ⟨gb149, 2, none⟩ = some (.int .i64 a0_2) := (qi Ka.out 2).trans rfl; have hfz21_0 := qh Ka.out 0; have hfz21_1 := qh Ka.out 1; have hfz21_2 := qh Ka.out 2) | ((with_reducible refine gate_callee (f := 22) rfl ?_); refine goesL_ (some 45) rfl rfl Try.func22 (by kernel_rfl) rfl #[.agg #[.int .i64 a0_0, .int .i64 a0_1, .int .i64 a0_2], .slice A1 l1.length c1] rfl (by (try simp only [List.map_toArray, List.map_cons, List.map_nil]); first | done | rfl | (simp only [List.length_drop, List.length_take]; rfl)) ?_; (with_reducible refine (burden_Sums.calls k a0_0 a0_1 a0_2 _ _ l1 t157 t158 t159 _ ?side1 ?side2 A8.out).mono ?_); (case side1 => repeat (first | exact (Kd.C_below HR1.out HB.out) | (with_reducible refine Kd.C_alloc ?_ _) | (with_reducible refine Kd.C_drewN ?_ _) | (with_reducible refine Kd.C_drew ?_))); (case side2 => exact HC1.out); rintro e w22 ⟨rfl, hb⟩; refine ⟨_, rfl, ?_⟩; have n0_ := Aside0.mk (Kd.R_below (by (with_reducible repeat (first | apply qk | apply qj | apply ql)); exact HO155.out) hb); have n1_ := Aside0.mk (blk_below (g := gb149) (o := .cells #[.int .i64 a0_0, .int .i64 a0_1, .int .i64 a0_2] 25 (0, 0)) (by (with_reducible repeat (first | refine qa ?_ _ | refine qb ?_ | refine qc ?_ _)); exact Ka.out) hb); have n2_ := Aside0.mk (blk_below (g := gb150) (o := .cells #[.int .i64 a2_0, .string a2_1, .int .i64 a2_2, .int .i64 a2_3, .int .i64 a2_4, .int .i64 a2_5, .int .i64 a2_6] 45 (0, 0)) (by (with_reducible repeat (first | refine qa ?_ _ | refine qb ?_ | refine qc ?_ _)); exact Kb.out) hb); have n3_ := Aside0.mk (below_step (by repeat (first | (with_reducible first | exact HB.out | apply qg | apply qe | apply qf | refine qd ?_ Ga.out | refine qd ?_ Gb.out) | exact HB.out)) hb); clear HO155; clear Ka; clear Kb; clear HB; have HO155 := n0_; have Ka := n1_; have Kb := n2_; have HB := n3_; clear n0_ n1_ n2_ n3_; (try clear hb); (try clear hb2); (try clear hk); (try clear hi); have hcz23_0 : w22.cell? ⟨gb149, 0, none⟩ = some (.int .i64 a0_0) := (qi Ka.out 0).trans rfl; have hcz23_1 : w22.cell? ⟨gb149, 1, none⟩ = some (.int .i64 a0_1) := (qi Ka.out 1).trans rfl; have hcz23_2 : w22.cell? ⟨gb149, 2, none⟩ = some (.int .i64 a0_2) := (qi Ka.out 2).trans rfl; have hfz23_0 := qh Ka.out 0; have hfz23_1 := qh Ka.out 1; have hfz23_2 := qh Ka.out 2) | ((with_reducible refine gate_callee (f := 23) rfl ?_); refine goesL_ (some 52) rfl rfl Try.func23 (by kernel_rfl) rfl #[.agg #[.int .i64 a0_0, .int .i64 a0_1, .int .i64 a0_2], .slice A1 l1.length c1] rfl (by (try simp only [List.map_toArray, List.map_cons, List.map_nil]); first | done | rfl | (simp only [List.length_drop, List.length_take]; rfl)) ?_; (with_reducible refine (burden_Proof.calls k a0_0 a0_1 a0_2 _ _ l1 t160 t161 _ ?side1 ?side2 A9.out).mono ?_); (case side1 => repeat (first | exact (Kd.C_below HR1.out HB.out) | (with_reducible refine Kd.C_alloc ?_ _) | (with_reducible refine Kd.C_drewN ?_ _) | (with_reducible refine Kd.C_drew ?_))); (case side2 => exact HC1.out); rintro e w24 ⟨rfl, hb⟩; refine ⟨_, rfl, ?_⟩; have n0_ := Aside0.mk (Kd.R_below (by (with_reducible repeat (first | apply qk | apply qj | apply ql)); exact HO155.out) hb); have n1_ := Aside0.mk (blk_below (g := gb149) (o := .cells #[.int .i64 a0_0, .int .i64 a0_1, .int .i64 a0_2] 25 (0, 0)) (by (with_reducible repeat (first | refine qa ?_ _ | refine qb ?_ | refine qc ?_ _)); exact Ka.out) hb); have n2_ := Aside0.mk (blk_below (g := gb150) (o := .cells #[.int .i64 a2_0, .string a2_1, .int .i64 a2_2, .int .i64 a2_3, .int .i64 a2_4, .int .i64 a2_5, .int .i64 a2_6] 45 (0, 0)) (by (with_reducible repeat (first | refine qa ?_ _ | refine qb ?_ | refine qc ?_ _)); exact Kb.out) hb); have n3_ := Aside0.mk (below_step (by repeat (first | (with_reducible first | exact HB.out | apply qg | apply qe | apply qf | refine qd ?_ Ga.out | refine qd ?_ Gb.out) | exact HB.out)) hb); clear HO155; clear Ka; clear Kb; clear HB; have HO155 := n0_; have Ka := n1_; have Kb := n2_; have HB := n3_; clear n0_ n1_ n2_ n3_; (try clear hb); (try clear hb2); (try clear hk); (try clear hi); have hcz25_0 : w24.cell? ⟨gb149, 0, none⟩ = some (.int .i64 a0_0) := (qi Ka.out 0).trans rfl; have hcz25_1 : w24.cell? ⟨gb149, 1, none⟩ = some (.int .i64 a0_1) := (qi Ka.out 1).trans rfl; have hcz25_2 : w24.cell? ⟨gb149, 2, none⟩ = some (.int .i64 a0_2) := (qi Ka.out 2).trans rfl; have hfz25_0 := qh Ka.out 0; have hfz25_1 := qh Ka.out 1; have hfz25_2 := qh Ka.out 2) | ((with_reducible refine gate_callee (f := 15) rfl ?_); refine goesL_ (some 58) rfl rfl Try.func15 (by kernel_rfl) rfl #[.agg #[.int .i64 a0_0, .int .i64 a0_1, .int .i64 a0_2], .slice A1 l1.length c1] rfl (by (try simp only [List.map_toArray, List.map_cons, List.map_nil]); first | done | rfl | (simp only [List.length_drop, List.length_take]; rfl)) ?_; (with_reducible refine (burden_Find.calls k a0_0 a0_1 a0_2 _ _ l1 t162 t163 t164 _ ?side1 ?side2 A10.out).mono ?_); (case side1 => repeat (first | exact (Kd.C_below HR1.out HB.out) | (with_reducible refine Kd.C_alloc ?_ _) | (with_reducible refine Kd.C_drewN ?_ _) | (with_reducible refine Kd.C_drew ?_))); (case side2 => exact HC1.out); rintro e w26 ⟨rfl, hb⟩; refine ⟨_, rfl, ?_⟩; have n0_ := Aside0.mk (Kd.R_below (by (with_reducible repeat (first | apply qk | apply qj | apply ql)); exact HO155.out) hb); have n1_ := Aside0.mk (blk_below (g := gb149) (o := .cells #[.int .i64 a0_0, .int .i64 a0_1, .int .i64 a0_2] 25 (0, 0)) (by (with_reducible repeat (first | refine qa ?_ _ | refine qb ?_ | refine qc ?_ _)); exact Ka.out) hb); have n2_ := Aside0.mk (blk_below (g := gb150) (o := .cells #[.int .i64 a2_0, .string a2_1, .int .i64 a2_2, .int .i64 a2_3, .int .i64 a2_4, .int .i64 a2_5, .int .i64 a2_6] 45 (0, 0)) (by (with_reducible repeat (first | refine qa ?_ _ | refine qb ?_ | refine qc ?_ _)); exact Kb.out) hb); have n3_ := Aside0.mk (below_step (by repeat (first | (with_reducible first | exact HB.out | apply qg | apply qe | apply qf | refine qd ?_ Ga.out | refine qd ?_ Gb.out) | exact HB.out)) hb); clear HO155; clear Ka; clear Kb; clear HB; have HO155 := n0_; have Ka := n1_; have Kb := n2_; have HB := n3_; clear n0_ n1_ n2_ n3_; (try clear hb); (try clear hb2); (try clear hk); (try clear hi); have hcz27_0 : w26.cell? ⟨gb149, 0, none⟩ = some (.int .i64 a0_0) := (qi Ka.out 0).trans rfl; have hcz27_1 : w26.cell? ⟨gb149, 1, none⟩ = some (.int .i64 a0_1) := (qi Ka.out 1).trans rfl; have hcz27_2 : w26.cell? ⟨gb149, 2, none⟩ = some (.int .i64 a0_2) := (qi Ka.out 2).trans rfl; have hfz27_0 := qh Ka.out 0; have hfz27_1 := qh Ka.out 1; have hfz27_2 := qh Ka.out 2; have hcz28_0 : w26.cell? ⟨gb150, 0, none⟩ = some (.int .i64 a2_0) := (qi Kb.out 0).trans rfl; have hcz28_1 : w26.cell? ⟨gb150, 1, none⟩ = some (.string a2_1) := (qi Kb.out 1).trans rfl; have hcz28_2 : w26.cell? ⟨gb150, 2, none⟩ = some (.int .i64 a2_2) := (qi Kb.out 2).trans rfl; have hcz28_3 : w26.cell? ⟨gb150, 3, none⟩ = some (.int .i64 a2_3) := (qi Kb.out 3).trans rfl; have hcz28_4 : w26.cell? ⟨gb150, 4, none⟩ = some (.int .i64 a2_4) := (qi Kb.out 4).trans rfl; have hcz28_5 : w26.cell? ⟨gb150, 5, none⟩ = some (.int .i64 a2_5) := (qi Kb.out 5).trans rfl; have hcz28_6 : w26.cell? ⟨gb150, 6, none⟩ = some (.int .i64 a2_6) := (qi Kb.out 6).trans rfl; have hdy28_0 : ∀ a_ b_, ((w26.setCell ⟨gb150, 2, none⟩ a_).setCell ⟨gb150, 3, none⟩ b_).cell? ⟨gb150, 0, none⟩ = some (.int .i64 a2_0) := fun a_ b_ => (blk_cell (blk_set (blk_set Kb.out 2 a_) 3 b_) 0).trans rfl; have hdy28_1 : ∀ a_ b_, ((w26.setCell ⟨gb150, 2, none⟩ a_).setCell ⟨gb150, 3, none⟩ b_).cell? ⟨gb150, 1, none⟩ = some (.string a2_1) := fun a_ b_ => (blk_cell (blk_set (blk_set Kb.out 2 a_) 3 b_) 1).trans rfl; have hdy28_2 : ∀ a_ b_, ((w26.setCell ⟨gb150, 2, none⟩ a_).setCell ⟨gb150, 3, none⟩ b_).cell? ⟨gb150, 2, none⟩ = some a_ := fun a_ b_ => (blk_cell (blk_set (blk_set Kb.out 2 a_) 3 b_) 2).trans rfl; have hdy28_3 : ∀ a_ b_, ((w26.setCell ⟨gb150, 2, none⟩ a_).setCell ⟨gb150, 3, none⟩ b_).cell? ⟨gb150, 3, none⟩ = some b_ := fun a_ b_ => (blk_cell (blk_set (blk_set Kb.out 2 a_) 3 b_) 3).trans rfl; have hdy28_4 : ∀ a_ b_, ((w26.setCell ⟨gb150, 2, none⟩ a_).setCell ⟨gb150, 3, none⟩ b_).cell? ⟨gb150, 4, none⟩ = some (.int .i64 a2_4) := fun a_ b_ => (blk_cell (blk_set (blk_set Kb.out 2 a_) 3 b_) 4).trans rfl; have hdy28_5 : ∀ a_ b_, ((w26.setCell ⟨gb150, 2, none⟩ a_).setCell ⟨gb150, 3, none⟩ b_).cell? ⟨gb150, 5, none⟩ = some (.int .i64 a2_5) := fun a_ b_ => (blk_cell (blk_set (blk_set Kb.out 2 a_) 3 b_) 5).trans rfl; have hdy28_6 : ∀ a_ b_, ((w26.setCell ⟨gb150, 2, none⟩ a_).setCell ⟨gb150, 3, none⟩ b_).cell? ⟨gb150, 6, none⟩ = some (.int .i64 a2_6) := fun a_ b_ => (blk_cell (blk_set (blk_set Kb.out 2 a_) 3 b_) 6).trans rfl; have hfz28_0 := qh Kb.out 0; have hfz28_1 := qh Kb.out 1; have hfz28_2 := qh Kb.out 2; have hfz28_3 := qh Kb.out 3; have hfz28_4 := qh Kb.out 4; have hfz28_5 := qh Kb.out 5; have hfz28_6 := qh Kb.out 6) | ((with_reducible refine gate_callee (f := 24) rfl ?_); refine goesL_ (some 66) rfl rfl Try.func24 (by kernel_rfl) rfl #[.agg #[.int .i64 a0_0, .int .i64 a0_1, .int .i64 a0_2], .slice A1 l1.length c1, .agg #[.int .i64 a2_0, .string a2_1, .int .i64 a2_2, .int .i64 a2_3, .int .i64 a2_4, .int .i64 a2_5, .int .i64 a2_6]] rfl (by (try simp only [List.map_toArray, List.map_cons, List.map_nil]); first | done | rfl | (simp only [List.length_drop, List.length_take]; rfl)) ?_; (with_reducible refine (burden_Fact.calls k a0_0 a0_1 a0_2 _ _ l1 a2_0 a2_1 a2_2 a2_3 a2_4 a2_5 a2_6 t165 t166 t167 t168 t169 t170 t171 t172 _ ?side1 ?side2 A11.out).mono ?_); (case side1 => repeat (first | exact (Kd.C_below HR1.out HB.out) | (with_reducible refine Kd.C_alloc ?_ _) | (with_reducible refine Kd.C_drewN ?_ _) | (with_reducible refine Kd.C_drew ?_))); (case side2 => exact HC1.out); rintro e w29 ⟨rfl, hb⟩; refine ⟨_, rfl, ?_⟩; have n0_ := Aside0.mk (Kd.R_below (by (with_reducible repeat (first | apply qk | apply qj | apply ql)); exact HO155.out) hb); have n1_ := Aside0.mk (blk_below (g := gb149) (o := .cells #[.int .i64 a0_0, .int .i64 a0_1, .int .i64 a0_2] 25 (0, 0)) (by (with_reducible repeat (first | refine qa ?_ _ | refine qb ?_ | refine qc ?_ _)); exact Ka.out) hb); have n2_ := Aside0.mk (blk_below (g := gb150) (o := .cells #[.int .i64 a2_0, .string a2_1, .int .i64 a2_2, .int .i64 a2_3, .int .i64 a2_4, .int .i64 a2_5, .int .i64 a2_6] 45 (0, 0)) (by (with_reducible repeat (first | refine qa ?_ _ | refine qb ?_ | refine qc ?_ _)); exact Kb.out) hb); have n3_ := Aside0.mk (below_step (by repeat (first | (with_reducible first | exact HB.out | apply qg | apply qe | apply qf | refine qd ?_ Ga.out | refine qd ?_ Gb.out) | exact HB.out)) hb); clear HO155; clear Ka; clear Kb; clear HB; have HO155 := n0_; have Ka := n1_; have Kb := n2_; have HB := n3_; clear n0_ n1_ n2_ n3_; (try clear hb); (try clear hb2); (try clear hk); (try clear hi)) | ((with_reducible refine gate_dst (N := 18) rfl ?_); refine box_event ?hg (N := 18) ?hd (cs := #[.int .i64 0, .string (⟨#[]⟩ : ByteArray), .int .i64 0, .int .i64 0, .int .i64 0, .int .i64 0, .int .i64 0]) (t := 45) ?hr ?_; (case hd => rfl); (case hg => rfl); (case hr => first | (go_simp; done) | (go_simp; rfl)); intro gb173 hg w30 hbox hb; have n0_ := Aside0.mk (Kd.R_below (by (with_reducible repeat (first | apply qk | apply qj | apply ql)); exact HO155.out) hb); have n1_ := Aside0.mk (blk_below (g := gb149) (o := .cells #[.int .i64 a0_0, .int .i64 a0_1, .int .i64 a0_2] 25 (0, 0)) (by (with_reducible repeat (first | refine qa ?_ _ | refine qb ?_ | refine qc ?_ _)); exact Ka.out) hb); have n2_ := Aside0.mk (blk_below (g := gb150) (o := .cells #[.int .i64 a2_0, .string a2_1, .int .i64 a2_2, .int .i64 a2_3, .int .i64 a2_4, .int .i64 a2_5, .int .i64 a2_6] 45 (0, 0)) (by (with_reducible repeat (first | refine qa ?_ _ | refine qb ?_ | refine qc ?_ _)); exact Kb.out) hb); have n3_ := Aside0.mk (below_step (by repeat (first | (with_reducible first | exact HB.out | apply qg | apply qe | apply qf | refine qd ?_ Ga.out | refine qd ?_ Gb.out) | exact HB.out)) hb); have n4_ := Aside0.mk (hbox); have n5_ := Aside0.mk ((by rw [hg]; exact (below_size (by repeat (first | (with_reducible first | exact HB.out | apply qg | apply qe | apply qf | refine qd ?_ Ga.out | refine qd ?_ Gb.out) | exact HB.out))) : w.heap.size ≤ gb173)); have n6_ := Aside0.mk ((by rw [hg]; exact (below_size (by repeat (first | (with_reducible first | exact HB.out | apply qg | apply qe | apply qf | refine qd ?_ Ga.out | refine qd ?_ Gb.out) | exact HB.out))) : w.heap.size ≤ gb173)); have n7_ := Aside0.mk ((by rw [hg]; exact Nat.ne_of_lt (blk_lt (g := gb149) (o := .cells #[.int .i64 a0_0, .int .i64 a0_1, .int .i64 a0_2] 25 (0, 0)) (by (with_reducible repeat (first | refine qa ?_ _ | refine qb ?_ | refine qc ?_ _)); exact Ka.out)) : gb149 ≠ gb173)); have n8_ := Aside0.mk ((by rw [hg]; exact Nat.ne_of_gt (blk_lt (g := gb149) (o := .cells #[.int .i64 a0_0, .int .i64 a0_1, .int .i64 a0_2] 25 (0, 0)) (by (with_reducible repeat (first | refine qa ?_ _ | refine qb ?_ | refine qc ?_ _)); exact Ka.out)) : gb173 ≠ gb149)); have n9_ := Aside0.mk ((by rw [hg]; exact Nat.ne_of_lt (blk_lt (g := gb150) (o := .cells #[.int .i64 a2_0, .string a2_1, .int .i64 a2_2, .int .i64 a2_3, .int .i64 a2_4, .int .i64 a2_5, .int .i64 a2_6] 45 (0, 0)) (by (with_reducible repeat (first | refine qa ?_ _ | refine qb ?_ | refine qc ?_ _)); exact Kb.out)) : gb150 ≠ gb173)); have n10_ := Aside0.mk ((by rw [hg]; exact Nat.ne_of_gt (blk_lt (g := gb150) (o := .cells #[.int .i64 a2_0, .string a2_1, .int .i64 a2_2, .int .i64 a2_3, .int .i64 a2_4, .int .i64 a2_5, .int .i64 a2_6] 45 (0, 0)) (by (with_reducible repeat (first | refine qa ?_ _ | refine qb ?_ | refine qc ?_ _)); exact Kb.out)) : gb173 ≠ gb150)); clear HO155; clear Ka; clear Kb; clear HB; have HO155 := n0_; have Ka := n1_; have Kb := n2_; have HB := n3_; have Kc := n4_; have GW173 := n5_; have Gc := n6_; have Na := n7_; have Nc := n8_; have Nb := n9_; have Nd := n10_; clear n0_ n1_ n2_ n3_ n4_ n5_ n6_ n7_ n8_ n9_ n10_; clear hb hbox hg; have hnb31 := Nc.out; have hnc31 := Na.out; have hnb32 := Nd.out; have hnc32 := Nb.out; have hcz33_0 : w30.cell? ⟨gb173, 0, none⟩ = some (.int .i64 0) := (qi Kc.out 0).trans rfl; have hcz33_1 : w30.cell? ⟨gb173, 1, none⟩ = some (.string (⟨#[]⟩ : ByteArray)) := (qi Kc.out 1).trans rfl; have hcz33_2 : w30.cell? ⟨gb173, 2, none⟩ = some (.int .i64 0) := (qi Kc.out 2).trans rfl; have hcz33_3 : w30.cell? ⟨gb173, 3, none⟩ = some (.int .i64 0) := (qi Kc.out 3).trans rfl; have hcz33_4 : w30.cell? ⟨gb173, 4, none⟩ = some (.int .i64 0) := (qi Kc.out 4).trans rfl; have hcz33_5 : w30.cell? ⟨gb173, 5, none⟩ = some (.int .i64 0) := (qi Kc.out 5).trans rfl; have hcz33_6 : w30.cell? ⟨gb173, 6, none⟩ = some (.int .i64 0) := (qi Kc.out 6).trans rfl; have hfz33_0 := qh Kc.out 0; have hfz33_1 := qh Kc.out 1; have hfz33_2 := qh Kc.out 2; have hfz33_3 := qh Kc.out 3; have hfz33_4 := qh Kc.out 4; have hfz33_5 := qh Kc.out 5; have hfz33_6 := qh Kc.out 6))
  (try simp only [Act.put, List.setIfInBounds_toArray, List.set_cons_zero, List.set_cons_succ])
  go_cut [98] (fun v98 wc => ∃ (kq : Nat) (x98_11 : Bool), v98 = .bool x98_11 ∧ Aside0 (mootlaw4_BurdenTells.j0 kq l1 t152 t153 t157 t158 t160 t162 t163 x98_11 a0_0 a0_1 a0_2 a2_0 a2_1 a2_2 a2_3 a2_4 a2_5 a2_6 t165 t166 t167 t168 t169 t170 t171 = some r) ∧ Aside0 (kq ≤ k) ∧ Aside0 (Kd.R Kd.bool 4 wc w.heap.size (fun _ => True) v154 t153) ∧ Aside0 (wc.heap[gb149]? = some (.cells #[.int .i64 a0_0, .int .i64 a0_1, .int .i64 a0_2] 25 (0, 0))) ∧ Aside0 (wc.heap[gb150]? = some (.cells #[.int .i64 a2_0, .string a2_1, .int .i64 a2_2, .int .i64 a2_3, .int .i64 a2_4, .int .i64 a2_5, .int .i64 a2_6] 45 (0, 0))) ∧ Aside0 (wc.heap[gb173]? = some (.cells #[.int .i64 t165, .string t166, .int .i64 t167, .int .i64 t168, .int .i64 t169, .int .i64 t170, .int .i64 t171] 45 (0, 0))) ∧ Aside0 (Below w.heap.size w wc))
  case first =>
   have H := HC12.out
   clear HC12
   replace H := Option.bind_eq_some_iff.mp H
   obtain ⟨t174, A340, H⟩ := H
   replace H : (if t174 = t152 then (if t156 = t152 then (if t159 = t152 then (if t161 = t152 then (if t164 = t152 then (mootlaw4_BurdenTells.j0 k l1 t152 t153 t157 t158 t160 t162 t163 (t172 != t152) a0_0 a0_1 a0_2 a2_0 a2_1 a2_2 a2_3 a2_4 a2_5 a2_6 t165 t166 t167 t168 t169 t170 t171) else (mootlaw4_BurdenTells.j0 k l1 t152 t153 t157 t158 t160 t162 t163 true a0_0 a0_1 a0_2 a2_0 a2_1 a2_2 a2_3 a2_4 a2_5 a2_6 t165 t166 t167 t168 t169 t170 t171)) else (mootlaw4_BurdenTells.j0 k l1 t152 t153 t157 t158 t160 t162 t163 true a0_0 a0_1 a0_2 a2_0 a2_1 a2_2 a2_3 a2_4 a2_5 a2_6 t165 t166 t167 t168 t169 t170 t171)) else (mootlaw4_BurdenTells.j0 k l1 t152 t153 t157 t158 t160 t162 t163 true a0_0 a0_1 a0_2 a2_0 a2_1 a2_2 a2_3 a2_4 a2_5 a2_6 t165 t166 t167 t168 t169 t170 t171)) else (mootlaw4_BurdenTells.j0 k l1 t152 t153 t157 t158 t160 t162 t163 true a0_0 a0_1 a0_2 a2_0 a2_1 a2_2 a2_3 a2_4 a2_5 a2_6 t165 t166 t167 t168 t169 t170 t171)) else (mootlaw4_BurdenTells.j0 k l1 t152 t153 t157 t158 t160 t162 t163 true a0_0 a0_1 a0_2 a2_0 a2_1 a2_2 a2_3 a2_4 a2_5 a2_6 t165 t166 t167 t168 t169 t170 t171)) = some r := H
   have A34 := Aside0.mk A340
   clear A340
   by_cases c35 : t174 = t152
   ·
    rw [if_pos c35] at H
    have c35b0 : (t174 == t152) = true := beq_iff_eq.mpr c35
    have c35b1 : (t174 != t152) = false := bne_eq_false_iff_eq.mpr c35
    clear c35
    (first | rw [c35b0] | (simp only [i64_w, i32_w]; rw [c35b0]) | skip)
    by_cases c36 : t156 = t152
    ·
     rw [if_pos c36] at H
     have c36b0 : (t156 == t152) = true := beq_iff_eq.mpr c36
     have c36b1 : (t156 != t152) = false := bne_eq_false_iff_eq.mpr c36
     clear c36
     by_cases c37 : t159 = t152
     ·
      rw [if_pos c37] at H
      have c37b0 : (t159 == t152) = true := beq_iff_eq.mpr c37
      have c37b1 : (t159 != t152) = false := bne_eq_false_iff_eq.mpr c37
      clear c37
      by_cases c38 : t161 = t152
      ·
       rw [if_pos c38] at H
       have c38b0 : (t161 == t152) = true := beq_iff_eq.mpr c38
       have c38b1 : (t161 != t152) = false := bne_eq_false_iff_eq.mpr c38
       clear c38
       by_cases c39 : t164 = t152
       ·
        rw [if_pos c39] at H
        have c39b0 : (t164 == t152) = true := beq_iff_eq.mpr c39
        have c39b1 : (t164 != t152) = false := bne_eq_false_iff_eq.mpr c39
        clear c39
        have H' := Aside0.mk H
        clear H
        have hnb40 := Ne.out
        have hnc40 := Nf.out
        have hnb41 := Na.out
        have hnc41 := Nc.out
        have hcz42_0 : w30.cell? ⟨gb149, 0, none⟩ = some (.int .i64 a0_0) := (qi Ka.out 0).trans rfl
        have hcz42_1 : w30.cell? ⟨gb149, 1, none⟩ = some (.int .i64 a0_1) := (qi Ka.out 1).trans rfl
        have hcz42_2 : w30.cell? ⟨gb149, 2, none⟩ = some (.int .i64 a0_2) := (qi Ka.out 2).trans rfl
        have hfz42_0 := qh Ka.out 0
        have hfz42_1 := qh Ka.out 1
        have hfz42_2 := qh Ka.out 2
        go_wp2_with (first | ((with_reducible refine gate_callee (f := 25) rfl ?_); refine goesL_ (some 71) rfl rfl Try.func25 (by kernel_rfl) rfl #[.agg #[.int .i64 a0_0, .int .i64 a0_1, .int .i64 a0_2], .slice A1 l1.length c1] rfl (by (try simp only [List.map_toArray, List.map_cons, List.map_nil]); first | done | rfl | (simp only [List.length_drop, List.length_take]; rfl)) ?_; (with_reducible refine (burden_Check.calls k a0_0 a0_1 a0_2 _ _ l1 t174 _ ?side1 ?side2 A34.out).mono ?_); (case side1 => exact Kd.C_below HR1.out (by repeat (first | (with_reducible first | exact HB.out | apply qg | apply qe | apply qf | refine qd ?_ Ga.out | refine qd ?_ Gb.out | refine qd ?_ Gc.out) | exact HB.out))); (case side2 => exact HC1.out); rintro e w43 ⟨rfl, hb⟩; refine ⟨_, rfl, ?_⟩; have n0_ := Aside0.mk (Kd.R_below (by (with_reducible repeat (first | apply qk | apply qj | apply ql)); exact (Kd.R_mono (Kd.R_far (p := ⟨gb173, 6, none⟩) (Kd.R_far (p := ⟨gb173, 5, none⟩) (Kd.R_far (p := ⟨gb173, 4, none⟩) (Kd.R_far (p := ⟨gb173, 3, none⟩) (Kd.R_far (p := ⟨gb173, 2, none⟩) (Kd.R_far (p := ⟨gb173, 1, none⟩) (Kd.R_far (p := ⟨gb173, 0, none⟩) (Kd.R_types HO155.out Kc.out (by decide)) (fun _ hk => hk.2) (.int .i64 t165)) (fun _ hk => hk.2) (.string t166)) (fun _ hk => hk.2) (.int .i64 t167)) (fun _ hk => hk.2) (.int .i64 t168)) (fun _ hk => hk.2) (.int .i64 t169)) (fun _ hk => hk.2) (.int .i64 t170)) (fun _ hk => hk.2) (.int .i64 t171)) (fun _ h_ => h_.1))) hb); have n1_ := Aside0.mk (blk_below (g := gb149) (o := .cells #[.int .i64 a0_0, .int .i64 a0_1, .int .i64 a0_2] 25 (0, 0)) (by (with_reducible repeat (first | refine qa ?_ _ | refine qb ?_ | refine qc ?_ _)); refine blk_far ?_ Na.out _; (with_reducible repeat (first | refine qa ?_ _ | refine qb ?_ | refine qc ?_ _)); refine blk_far ?_ Na.out _; (with_reducible repeat (first | refine qa ?_ _ | refine qb ?_ | refine qc ?_ _)); refine blk_far ?_ Na.out _; (with_reducible repeat (first | refine qa ?_ _ | refine qb ?_ | refine qc ?_ _)); refine blk_far ?_ Na.out _; (with_reducible repeat (first | refine qa ?_ _ | refine qb ?_ | refine qc ?_ _)); refine blk_far ?_ Na.out _; (with_reducible repeat (first | refine qa ?_ _ | refine qb ?_ | refine qc ?_ _)); refine blk_far ?_ Na.out _; (with_reducible repeat (first | refine qa ?_ _ | refine qb ?_ | refine qc ?_ _)); refine blk_far ?_ Na.out _; (with_reducible repeat (first | refine qa ?_ _ | refine qb ?_ | refine qc ?_ _)); exact Ka.out) hb); have n2_ := Aside0.mk (blk_below (g := gb150) (o := .cells #[.int .i64 a2_0, .string a2_1, .int .i64 a2_2, .int .i64 a2_3, .int .i64 a2_4, .int .i64 a2_5, .int .i64 a2_6] 45 (0, 0)) (by (with_reducible repeat (first | refine qa ?_ _ | refine qb ?_ | refine qc ?_ _)); refine blk_far ?_ Nb.out _; (with_reducible repeat (first | refine qa ?_ _ | refine qb ?_ | refine qc ?_ _)); refine blk_far ?_ Nb.out _; (with_reducible repeat (first | refine qa ?_ _ | refine qb ?_ | refine qc ?_ _)); refine blk_far ?_ Nb.out _; (with_reducible repeat (first | refine qa ?_ _ | refine qb ?_ | refine qc ?_ _)); refine blk_far ?_ Nb.out _; (with_reducible repeat (first | refine qa ?_ _ | refine qb ?_ | refine qc ?_ _)); refine blk_far ?_ Nb.out _; (with_reducible repeat (first | refine qa ?_ _ | refine qb ?_ | refine qc ?_ _)); refine blk_far ?_ Nb.out _; (with_reducible repeat (first | refine qa ?_ _ | refine qb ?_ | refine qc ?_ _)); refine blk_far ?_ Nb.out _; (with_reducible repeat (first | refine qa ?_ _ | refine qb ?_ | refine qc ?_ _)); exact Kb.out) hb); have n3_ := Aside0.mk (blk_below (g := gb173) (o := .cells #[.int .i64 t165, .string t166, .int .i64 t167, .int .i64 t168, .int .i64 t169, .int .i64 t170, .int .i64 t171] 45 (0, 0)) (by (with_reducible repeat (first | refine qa ?_ _ | refine qb ?_ | refine qc ?_ _)); refine blk_put (cs := #[.int .i64 t165, .string t166, .int .i64 t167, .int .i64 t168, .int .i64 t169, .int .i64 t170, .int .i64 0]) ?_ 6 _ rfl; (with_reducible repeat (first | refine qa ?_ _ | refine qb ?_ | refine qc ?_ _)); refine blk_put (cs := #[.int .i64 t165, .string t166, .int .i64 t167, .int .i64 t168, .int .i64 t169, .int .i64 0, .int .i64 0]) ?_ 5 _ rfl; (with_reducible repeat (first | refine qa ?_ _ | refine qb ?_ | refine qc ?_ _)); refine blk_put (cs := #[.int .i64 t165, .string t166, .int .i64 t167, .int .i64 t168, .int .i64 0, .int .i64 0, .int .i64 0]) ?_ 4 _ rfl; (with_reducible repeat (first | refine qa ?_ _ | refine qb ?_ | refine qc ?_ _)); refine blk_put (cs := #[.int .i64 t165, .string t166, .int .i64 t167, .int .i64 0, .int .i64 0, .int .i64 0, .int .i64 0]) ?_ 3 _ rfl; (with_reducible repeat (first | refine qa ?_ _ | refine qb ?_ | refine qc ?_ _)); refine blk_put (cs := #[.int .i64 t165, .string t166, .int .i64 0, .int .i64 0, .int .i64 0, .int .i64 0, .int .i64 0]) ?_ 2 _ rfl; (with_reducible repeat (first | refine qa ?_ _ | refine qb ?_ | refine qc ?_ _)); refine blk_put (cs := #[.int .i64 t165, .string (⟨#[]⟩ : ByteArray), .int .i64 0, .int .i64 0, .int .i64 0, .int .i64 0, .int .i64 0]) ?_ 1 _ rfl; (with_reducible repeat (first | refine qa ?_ _ | refine qb ?_ | refine qc ?_ _)); refine blk_put (cs := #[.int .i64 0, .string (⟨#[]⟩ : ByteArray), .int .i64 0, .int .i64 0, .int .i64 0, .int .i64 0, .int .i64 0]) ?_ 0 _ rfl; (with_reducible repeat (first | refine qa ?_ _ | refine qb ?_ | refine qc ?_ _)); exact Kc.out) hb); have n4_ := Aside0.mk (below_step (by repeat (first | (with_reducible first | exact HB.out | apply qg | apply qe | apply qf | refine qd ?_ Ga.out | refine qd ?_ Gb.out | refine qd ?_ Gc.out) | exact HB.out)) hb); clear HO155; clear Ka; clear Kb; clear Kc; clear HB; have HO155 := n0_; have Ka := n1_; have Kb := n2_; have Kc := n3_; have HB := n4_; clear n0_ n1_ n2_ n3_ n4_; (try clear hb); (try clear hb2); (try clear hk); (try clear hi)))
        go_meet
        case rel => exact ⟨_, ((t172 != t152)), (by first | rfl | (simp; done) | (simp [*]; done)), H', ⟨by first | omega | exact Nat.le_refl _⟩, ⟨by (with_reducible repeat (first | apply qk | apply qj | apply ql)); exact HO155.out⟩, ⟨by (with_reducible repeat (first | refine qa ?_ _ | refine qb ?_ | refine qc ?_ _)); exact Ka.out⟩, ⟨by (with_reducible repeat (first | refine qa ?_ _ | refine qb ?_ | refine qc ?_ _)); exact Kb.out⟩, ⟨by (with_reducible repeat (first | refine qa ?_ _ | refine qb ?_ | refine qc ?_ _)); exact Kc.out⟩, ⟨by repeat (first | (with_reducible first | exact HB.out | apply qg | apply qe | apply qf | refine qd ?_ Ga.out | refine qd ?_ Gb.out | refine qd ?_ Gc.out) | exact HB.out)⟩⟩
       ·
        rw [if_neg c39] at H
        have c39b0 : (t164 == t152) = false := beq_eq_false_iff_ne.mpr c39
        have c39b1 : (t164 != t152) = true := bne_iff_ne.mpr c39
        have H' := Aside0.mk H
        clear H
        have hnb44 := Ne.out
        have hnc44 := Nf.out
        have hnb45 := Na.out
        have hnc45 := Nc.out
        have hcz46_0 : w30.cell? ⟨gb149, 0, none⟩ = some (.int .i64 a0_0) := (qi Ka.out 0).trans rfl
        have hcz46_1 : w30.cell? ⟨gb149, 1, none⟩ = some (.int .i64 a0_1) := (qi Ka.out 1).trans rfl
        have hcz46_2 : w30.cell? ⟨gb149, 2, none⟩ = some (.int .i64 a0_2) := (qi Ka.out 2).trans rfl
        have hfz46_0 := qh Ka.out 0
        have hfz46_1 := qh Ka.out 1
        have hfz46_2 := qh Ka.out 2
        go_wp2_with (first | ((with_reducible refine gate_callee (f := 25) rfl ?_); refine goesL_ (some 71) rfl rfl Try.func25 (by kernel_rfl) rfl #[.agg #[.int .i64 a0_0, .int .i64 a0_1, .int .i64 a0_2], .slice A1 l1.length c1] rfl (by (try simp only [List.map_toArray, List.map_cons, List.map_nil]); first | done | rfl | (simp only [List.length_drop, List.length_take]; rfl)) ?_; (with_reducible refine (burden_Check.calls k a0_0 a0_1 a0_2 _ _ l1 t174 _ ?side1 ?side2 A34.out).mono ?_); (case side1 => exact Kd.C_below HR1.out (by repeat (first | (with_reducible first | exact HB.out | apply qg | apply qe | apply qf | refine qd ?_ Ga.out | refine qd ?_ Gb.out | refine qd ?_ Gc.out) | exact HB.out))); (case side2 => exact HC1.out); rintro e w47 ⟨rfl, hb⟩; refine ⟨_, rfl, ?_⟩; have n0_ := Aside0.mk (Kd.R_below (by (with_reducible repeat (first | apply qk | apply qj | apply ql)); exact (Kd.R_mono (Kd.R_far (p := ⟨gb173, 6, none⟩) (Kd.R_far (p := ⟨gb173, 5, none⟩) (Kd.R_far (p := ⟨gb173, 4, none⟩) (Kd.R_far (p := ⟨gb173, 3, none⟩) (Kd.R_far (p := ⟨gb173, 2, none⟩) (Kd.R_far (p := ⟨gb173, 1, none⟩) (Kd.R_far (p := ⟨gb173, 0, none⟩) (Kd.R_types HO155.out Kc.out (by decide)) (fun _ hk => hk.2) (.int .i64 t165)) (fun _ hk => hk.2) (.string t166)) (fun _ hk => hk.2) (.int .i64 t167)) (fun _ hk => hk.2) (.int .i64 t168)) (fun _ hk => hk.2) (.int .i64 t169)) (fun _ hk => hk.2) (.int .i64 t170)) (fun _ hk => hk.2) (.int .i64 t171)) (fun _ h_ => h_.1))) hb); have n1_ := Aside0.mk (blk_below (g := gb149) (o := .cells #[.int .i64 a0_0, .int .i64 a0_1, .int .i64 a0_2] 25 (0, 0)) (by (with_reducible repeat (first | refine qa ?_ _ | refine qb ?_ | refine qc ?_ _)); refine blk_far ?_ Na.out _; (with_reducible repeat (first | refine qa ?_ _ | refine qb ?_ | refine qc ?_ _)); refine blk_far ?_ Na.out _; (with_reducible repeat (first | refine qa ?_ _ | refine qb ?_ | refine qc ?_ _)); refine blk_far ?_ Na.out _; (with_reducible repeat (first | refine qa ?_ _ | refine qb ?_ | refine qc ?_ _)); refine blk_far ?_ Na.out _; (with_reducible repeat (first | refine qa ?_ _ | refine qb ?_ | refine qc ?_ _)); refine blk_far ?_ Na.out _; (with_reducible repeat (first | refine qa ?_ _ | refine qb ?_ | refine qc ?_ _)); refine blk_far ?_ Na.out _; (with_reducible repeat (first | refine qa ?_ _ | refine qb ?_ | refine qc ?_ _)); refine blk_far ?_ Na.out _; (with_reducible repeat (first | refine qa ?_ _ | refine qb ?_ | refine qc ?_ _)); exact Ka.out) hb); have n2_ := Aside0.mk (blk_below (g := gb150) (o := .cells #[.int .i64 a2_0, .string a2_1, .int .i64 a2_2, .int .i64 a2_3, .int .i64 a2_4, .int .i64 a2_5, .int .i64 a2_6] 45 (0, 0)) (by (with_reducible repeat (first | refine qa ?_ _ | refine qb ?_ | refine qc ?_ _)); refine blk_far ?_ Nb.out _; (with_reducible repeat (first | refine qa ?_ _ | refine qb ?_ | refine qc ?_ _)); refine blk_far ?_ Nb.out _; (with_reducible repeat (first | refine qa ?_ _ | refine qb ?_ | refine qc ?_ _)); refine blk_far ?_ Nb.out _; (with_reducible repeat (first | refine qa ?_ _ | refine qb ?_ | refine qc ?_ _)); refine blk_far ?_ Nb.out _; (with_reducible repeat (first | refine qa ?_ _ | refine qb ?_ | refine qc ?_ _)); refine blk_far ?_ Nb.out _; (with_reducible repeat (first | refine qa ?_ _ | refine qb ?_ | refine qc ?_ _)); refine blk_far ?_ Nb.out _; (with_reducible repeat (first | refine qa ?_ _ | refine qb ?_ | refine qc ?_ _)); refine blk_far ?_ Nb.out _; (with_reducible repeat (first | refine qa ?_ _ | refine qb ?_ | refine qc ?_ _)); exact Kb.out) hb); have n3_ := Aside0.mk (blk_below (g := gb173) (o := .cells #[.int .i64 t165, .string t166, .int .i64 t167, .int .i64 t168, .int .i64 t169, .int .i64 t170, .int .i64 t171] 45 (0, 0)) (by (with_reducible repeat (first | refine qa ?_ _ | refine qb ?_ | refine qc ?_ _)); refine blk_put (cs := #[.int .i64 t165, .string t166, .int .i64 t167, .int .i64 t168, .int .i64 t169, .int .i64 t170, .int .i64 0]) ?_ 6 _ rfl; (with_reducible repeat (first | refine qa ?_ _ | refine qb ?_ | refine qc ?_ _)); refine blk_put (cs := #[.int .i64 t165, .string t166, .int .i64 t167, .int .i64 t168, .int .i64 t169, .int .i64 0, .int .i64 0]) ?_ 5 _ rfl; (with_reducible repeat (first | refine qa ?_ _ | refine qb ?_ | refine qc ?_ _)); refine blk_put (cs := #[.int .i64 t165, .string t166, .int .i64 t167, .int .i64 t168, .int .i64 0, .int .i64 0, .int .i64 0]) ?_ 4 _ rfl; (with_reducible repeat (first | refine qa ?_ _ | refine qb ?_ | refine qc ?_ _)); refine blk_put (cs := #[.int .i64 t165, .string t166, .int .i64 t167, .int .i64 0, .int .i64 0, .int .i64 0, .int .i64 0]) ?_ 3 _ rfl; (with_reducible repeat (first | refine qa ?_ _ | refine qb ?_ | refine qc ?_ _)); refine blk_put (cs := #[.int .i64 t165, .string t166, .int .i64 0, .int .i64 0, .int .i64 0, .int .i64 0, .int .i64 0]) ?_ 2 _ rfl; (with_reducible repeat (first | refine qa ?_ _ | refine qb ?_ | refine qc ?_ _)); refine blk_put (cs := #[.int .i64 t165, .string (⟨#[]⟩ : ByteArray), .int .i64 0, .int .i64 0, .int .i64 0, .int .i64 0, .int .i64 0]) ?_ 1 _ rfl; (with_reducible repeat (first | refine qa ?_ _ | refine qb ?_ | refine qc ?_ _)); refine blk_put (cs := #[.int .i64 0, .string (⟨#[]⟩ : ByteArray), .int .i64 0, .int .i64 0, .int .i64 0, .int .i64 0, .int .i64 0]) ?_ 0 _ rfl; (with_reducible repeat (first | refine qa ?_ _ | refine qb ?_ | refine qc ?_ _)); exact Kc.out) hb); have n4_ := Aside0.mk (below_step (by repeat (first | (with_reducible first | exact HB.out | apply qg | apply qe | apply qf | refine qd ?_ Ga.out | refine qd ?_ Gb.out | refine qd ?_ Gc.out) | exact HB.out)) hb); clear HO155; clear Ka; clear Kb; clear Kc; clear HB; have HO155 := n0_; have Ka := n1_; have Kb := n2_; have Kc := n3_; have HB := n4_; clear n0_ n1_ n2_ n3_ n4_; (try clear hb); (try clear hb2); (try clear hk); (try clear hi)))
        go_meet
        case rel => exact ⟨_, (true), (by first | rfl | (simp; done) | (simp [*]; done)), H', ⟨by first | omega | exact Nat.le_refl _⟩, ⟨by (with_reducible repeat (first | apply qk | apply qj | apply ql)); exact HO155.out⟩, ⟨by (with_reducible repeat (first | refine qa ?_ _ | refine qb ?_ | refine qc ?_ _)); exact Ka.out⟩, ⟨by (with_reducible repeat (first | refine qa ?_ _ | refine qb ?_ | refine qc ?_ _)); exact Kb.out⟩, ⟨by (with_reducible repeat (first | refine qa ?_ _ | refine qb ?_ | refine qc ?_ _)); exact Kc.out⟩, ⟨by repeat (first | (with_reducible first | exact HB.out | apply qg | apply qe | apply qf | refine qd ?_ Ga.out | refine qd ?_ Gb.out | refine qd ?_ Gc.out) | exact HB.out)⟩⟩
      ·
       rw [if_neg c38] at H
       have c38b0 : (t161 == t152) = false := beq_eq_false_iff_ne.mpr c38
       have c38b1 : (t161 != t152) = true := bne_iff_ne.mpr c38
       have H' := Aside0.mk H
       clear H
       have hnb48 := Ne.out
       have hnc48 := Nf.out
       have hnb49 := Na.out
       have hnc49 := Nc.out
       have hcz50_0 : w30.cell? ⟨gb149, 0, none⟩ = some (.int .i64 a0_0) := (qi Ka.out 0).trans rfl
       have hcz50_1 : w30.cell? ⟨gb149, 1, none⟩ = some (.int .i64 a0_1) := (qi Ka.out 1).trans rfl
       have hcz50_2 : w30.cell? ⟨gb149, 2, none⟩ = some (.int .i64 a0_2) := (qi Ka.out 2).trans rfl
       have hfz50_0 := qh Ka.out 0
       have hfz50_1 := qh Ka.out 1
       have hfz50_2 := qh Ka.out 2
       go_wp2_with (first | ((with_reducible refine gate_callee (f := 25) rfl ?_); refine goesL_ (some 71) rfl rfl Try.func25 (by kernel_rfl) rfl #[.agg #[.int .i64 a0_0, .int .i64 a0_1, .int .i64 a0_2], .slice A1 l1.length c1] rfl (by (try simp only [List.map_toArray, List.map_cons, List.map_nil]); first | done | rfl | (simp only [List.length_drop, List.length_take]; rfl)) ?_; (with_reducible refine (burden_Check.calls k a0_0 a0_1 a0_2 _ _ l1 t174 _ ?side1 ?side2 A34.out).mono ?_); (case side1 => exact Kd.C_below HR1.out (by repeat (first | (with_reducible first | exact HB.out | apply qg | apply qe | apply qf | refine qd ?_ Ga.out | refine qd ?_ Gb.out | refine qd ?_ Gc.out) | exact HB.out))); (case side2 => exact HC1.out); rintro e w51 ⟨rfl, hb⟩; refine ⟨_, rfl, ?_⟩; have n0_ := Aside0.mk (Kd.R_below (by (with_reducible repeat (first | apply qk | apply qj | apply ql)); exact (Kd.R_mono (Kd.R_far (p := ⟨gb173, 6, none⟩) (Kd.R_far (p := ⟨gb173, 5, none⟩) (Kd.R_far (p := ⟨gb173, 4, none⟩) (Kd.R_far (p := ⟨gb173, 3, none⟩) (Kd.R_far (p := ⟨gb173, 2, none⟩) (Kd.R_far (p := ⟨gb173, 1, none⟩) (Kd.R_far (p := ⟨gb173, 0, none⟩) (Kd.R_types HO155.out Kc.out (by decide)) (fun _ hk => hk.2) (.int .i64 t165)) (fun _ hk => hk.2) (.string t166)) (fun _ hk => hk.2) (.int .i64 t167)) (fun _ hk => hk.2) (.int .i64 t168)) (fun _ hk => hk.2) (.int .i64 t169)) (fun _ hk => hk.2) (.int .i64 t170)) (fun _ hk => hk.2) (.int .i64 t171)) (fun _ h_ => h_.1))) hb); have n1_ := Aside0.mk (blk_below (g := gb149) (o := .cells #[.int .i64 a0_0, .int .i64 a0_1, .int .i64 a0_2] 25 (0, 0)) (by (with_reducible repeat (first | refine qa ?_ _ | refine qb ?_ | refine qc ?_ _)); refine blk_far ?_ Na.out _; (with_reducible repeat (first | refine qa ?_ _ | refine qb ?_ | refine qc ?_ _)); refine blk_far ?_ Na.out _; (with_reducible repeat (first | refine qa ?_ _ | refine qb ?_ | refine qc ?_ _)); refine blk_far ?_ Na.out _; (with_reducible repeat (first | refine qa ?_ _ | refine qb ?_ | refine qc ?_ _)); refine blk_far ?_ Na.out _; (with_reducible repeat (first | refine qa ?_ _ | refine qb ?_ | refine qc ?_ _)); refine blk_far ?_ Na.out _; (with_reducible repeat (first | refine qa ?_ _ | refine qb ?_ | refine qc ?_ _)); refine blk_far ?_ Na.out _; (with_reducible repeat (first | refine qa ?_ _ | refine qb ?_ | refine qc ?_ _)); refine blk_far ?_ Na.out _; (with_reducible repeat (first | refine qa ?_ _ | refine qb ?_ | refine qc ?_ _)); exact Ka.out) hb); have n2_ := Aside0.mk (blk_below (g := gb150) (o := .cells #[.int .i64 a2_0, .string a2_1, .int .i64 a2_2, .int .i64 a2_3, .int .i64 a2_4, .int .i64 a2_5, .int .i64 a2_6] 45 (0, 0)) (by (with_reducible repeat (first | refine qa ?_ _ | refine qb ?_ | refine qc ?_ _)); refine blk_far ?_ Nb.out _; (with_reducible repeat (first | refine qa ?_ _ | refine qb ?_ | refine qc ?_ _)); refine blk_far ?_ Nb.out _; (with_reducible repeat (first | refine qa ?_ _ | refine qb ?_ | refine qc ?_ _)); refine blk_far ?_ Nb.out _; (with_reducible repeat (first | refine qa ?_ _ | refine qb ?_ | refine qc ?_ _)); refine blk_far ?_ Nb.out _; (with_reducible repeat (first | refine qa ?_ _ | refine qb ?_ | refine qc ?_ _)); refine blk_far ?_ Nb.out _; (with_reducible repeat (first | refine qa ?_ _ | refine qb ?_ | refine qc ?_ _)); refine blk_far ?_ Nb.out _; (with_reducible repeat (first | refine qa ?_ _ | refine qb ?_ | refine qc ?_ _)); refine blk_far ?_ Nb.out _; (with_reducible repeat (first | refine qa ?_ _ | refine qb ?_ | refine qc ?_ _)); exact Kb.out) hb); have n3_ := Aside0.mk (blk_below (g := gb173) (o := .cells #[.int .i64 t165, .string t166, .int .i64 t167, .int .i64 t168, .int .i64 t169, .int .i64 t170, .int .i64 t171] 45 (0, 0)) (by (with_reducible repeat (first | refine qa ?_ _ | refine qb ?_ | refine qc ?_ _)); refine blk_put (cs := #[.int .i64 t165, .string t166, .int .i64 t167, .int .i64 t168, .int .i64 t169, .int .i64 t170, .int .i64 0]) ?_ 6 _ rfl; (with_reducible repeat (first | refine qa ?_ _ | refine qb ?_ | refine qc ?_ _)); refine blk_put (cs := #[.int .i64 t165, .string t166, .int .i64 t167, .int .i64 t168, .int .i64 t169, .int .i64 0, .int .i64 0]) ?_ 5 _ rfl; (with_reducible repeat (first | refine qa ?_ _ | refine qb ?_ | refine qc ?_ _)); refine blk_put (cs := #[.int .i64 t165, .string t166, .int .i64 t167, .int .i64 t168, .int .i64 0, .int .i64 0, .int .i64 0]) ?_ 4 _ rfl; (with_reducible repeat (first | refine qa ?_ _ | refine qb ?_ | refine qc ?_ _)); refine blk_put (cs := #[.int .i64 t165, .string t166, .int .i64 t167, .int .i64 0, .int .i64 0, .int .i64 0, .int .i64 0]) ?_ 3 _ rfl; (with_reducible repeat (first | refine qa ?_ _ | refine qb ?_ | refine qc ?_ _)); refine blk_put (cs := #[.int .i64 t165, .string t166, .int .i64 0, .int .i64 0, .int .i64 0, .int .i64 0, .int .i64 0]) ?_ 2 _ rfl; (with_reducible repeat (first | refine qa ?_ _ | refine qb ?_ | refine qc ?_ _)); refine blk_put (cs := #[.int .i64 t165, .string (⟨#[]⟩ : ByteArray), .int .i64 0, .int .i64 0, .int .i64 0, .int .i64 0, .int .i64 0]) ?_ 1 _ rfl; (with_reducible repeat (first | refine qa ?_ _ | refine qb ?_ | refine qc ?_ _)); refine blk_put (cs := #[.int .i64 0, .string (⟨#[]⟩ : ByteArray), .int .i64 0, .int .i64 0, .int .i64 0, .int .i64 0, .int .i64 0]) ?_ 0 _ rfl; (with_reducible repeat (first | refine qa ?_ _ | refine qb ?_ | refine qc ?_ _)); exact Kc.out) hb); have n4_ := Aside0.mk (below_step (by repeat (first | (with_reducible first | exact HB.out | apply qg | apply qe | apply qf | refine qd ?_ Ga.out | refine qd ?_ Gb.out | refine qd ?_ Gc.out) | exact HB.out)) hb); clear HO155; clear Ka; clear Kb; clear Kc; clear HB; have HO155 := n0_; have Ka := n1_; have Kb := n2_; have Kc := n3_; have HB := n4_; clear n0_ n1_ n2_ n3_ n4_; (try clear hb); (try clear hb2); (try clear hk); (try clear hi)))
       go_meet
       case rel => exact ⟨_, (true), (by first | rfl | (simp; done) | (simp [*]; done)), H', ⟨by first | omega | exact Nat.le_refl _⟩, ⟨by (with_reducible repeat (first | apply qk | apply qj | apply ql)); exact HO155.out⟩, ⟨by (with_reducible repeat (first | refine qa ?_ _ | refine qb ?_ | refine qc ?_ _)); exact Ka.out⟩, ⟨by (with_reducible repeat (first | refine qa ?_ _ | refine qb ?_ | refine qc ?_ _)); exact Kb.out⟩, ⟨by (with_reducible repeat (first | refine qa ?_ _ | refine qb ?_ | refine qc ?_ _)); exact Kc.out⟩, ⟨by repeat (first | (with_reducible first | exact HB.out | apply qg | apply qe | apply qf | refine qd ?_ Ga.out | refine qd ?_ Gb.out | refine qd ?_ Gc.out) | exact HB.out)⟩⟩
     ·
      rw [if_neg c37] at H
      have c37b0 : (t159 == t152) = false := beq_eq_false_iff_ne.mpr c37
      have c37b1 : (t159 != t152) = true := bne_iff_ne.mpr c37
      have H' := Aside0.mk H
      clear H
      have hnb52 := Ne.out
      have hnc52 := Nf.out
      have hnb53 := Na.out
      have hnc53 := Nc.out
      have hcz54_0 : w30.cell? ⟨gb149, 0, none⟩ = some (.int .i64 a0_0) := (qi Ka.out 0).trans rfl
      have hcz54_1 : w30.cell? ⟨gb149, 1, none⟩ = some (.int .i64 a0_1) := (qi Ka.out 1).trans rfl
      have hcz54_2 : w30.cell? ⟨gb149, 2, none⟩ = some (.int .i64 a0_2) := (qi Ka.out 2).trans rfl
      have hfz54_0 := qh Ka.out 0
      have hfz54_1 := qh Ka.out 1
      have hfz54_2 := qh Ka.out 2
      go_wp2_with (first | ((with_reducible refine gate_callee (f := 25) rfl ?_); refine goesL_ (some 71) rfl rfl Try.func25 (by kernel_rfl) rfl #[.agg #[.int .i64 a0_0, .int .i64 a0_1, .int .i64 a0_2], .slice A1 l1.length c1] rfl (by (try simp only [List.map_toArray, List.map_cons, List.map_nil]); first | done | rfl | (simp only [List.length_drop, List.length_take]; rfl)) ?_; (with_reducible refine (burden_Check.calls k a0_0 a0_1 a0_2 _ _ l1 t174 _ ?side1 ?side2 A34.out).mono ?_); (case side1 => exact Kd.C_below HR1.out (by repeat (first | (with_reducible first | exact HB.out | apply qg | apply qe | apply qf | refine qd ?_ Ga.out | refine qd ?_ Gb.out | refine qd ?_ Gc.out) | exact HB.out))); (case side2 => exact HC1.out); rintro e w55 ⟨rfl, hb⟩; refine ⟨_, rfl, ?_⟩; have n0_ := Aside0.mk (Kd.R_below (by (with_reducible repeat (first | apply qk | apply qj | apply ql)); exact (Kd.R_mono (Kd.R_far (p := ⟨gb173, 6, none⟩) (Kd.R_far (p := ⟨gb173, 5, none⟩) (Kd.R_far (p := ⟨gb173, 4, none⟩) (Kd.R_far (p := ⟨gb173, 3, none⟩) (Kd.R_far (p := ⟨gb173, 2, none⟩) (Kd.R_far (p := ⟨gb173, 1, none⟩) (Kd.R_far (p := ⟨gb173, 0, none⟩) (Kd.R_types HO155.out Kc.out (by decide)) (fun _ hk => hk.2) (.int .i64 t165)) (fun _ hk => hk.2) (.string t166)) (fun _ hk => hk.2) (.int .i64 t167)) (fun _ hk => hk.2) (.int .i64 t168)) (fun _ hk => hk.2) (.int .i64 t169)) (fun _ hk => hk.2) (.int .i64 t170)) (fun _ hk => hk.2) (.int .i64 t171)) (fun _ h_ => h_.1))) hb); have n1_ := Aside0.mk (blk_below (g := gb149) (o := .cells #[.int .i64 a0_0, .int .i64 a0_1, .int .i64 a0_2] 25 (0, 0)) (by (with_reducible repeat (first | refine qa ?_ _ | refine qb ?_ | refine qc ?_ _)); refine blk_far ?_ Na.out _; (with_reducible repeat (first | refine qa ?_ _ | refine qb ?_ | refine qc ?_ _)); refine blk_far ?_ Na.out _; (with_reducible repeat (first | refine qa ?_ _ | refine qb ?_ | refine qc ?_ _)); refine blk_far ?_ Na.out _; (with_reducible repeat (first | refine qa ?_ _ | refine qb ?_ | refine qc ?_ _)); refine blk_far ?_ Na.out _; (with_reducible repeat (first | refine qa ?_ _ | refine qb ?_ | refine qc ?_ _)); refine blk_far ?_ Na.out _; (with_reducible repeat (first | refine qa ?_ _ | refine qb ?_ | refine qc ?_ _)); refine blk_far ?_ Na.out _; (with_reducible repeat (first | refine qa ?_ _ | refine qb ?_ | refine qc ?_ _)); refine blk_far ?_ Na.out _; (with_reducible repeat (first | refine qa ?_ _ | refine qb ?_ | refine qc ?_ _)); exact Ka.out) hb); have n2_ := Aside0.mk (blk_below (g := gb150) (o := .cells #[.int .i64 a2_0, .string a2_1, .int .i64 a2_2, .int .i64 a2_3, .int .i64 a2_4, .int .i64 a2_5, .int .i64 a2_6] 45 (0, 0)) (by (with_reducible repeat (first | refine qa ?_ _ | refine qb ?_ | refine qc ?_ _)); refine blk_far ?_ Nb.out _; (with_reducible repeat (first | refine qa ?_ _ | refine qb ?_ | refine qc ?_ _)); refine blk_far ?_ Nb.out _; (with_reducible repeat (first | refine qa ?_ _ | refine qb ?_ | refine qc ?_ _)); refine blk_far ?_ Nb.out _; (with_reducible repeat (first | refine qa ?_ _ | refine qb ?_ | refine qc ?_ _)); refine blk_far ?_ Nb.out _; (with_reducible repeat (first | refine qa ?_ _ | refine qb ?_ | refine qc ?_ _)); refine blk_far ?_ Nb.out _; (with_reducible repeat (first | refine qa ?_ _ | refine qb ?_ | refine qc ?_ _)); refine blk_far ?_ Nb.out _; (with_reducible repeat (first | refine qa ?_ _ | refine qb ?_ | refine qc ?_ _)); refine blk_far ?_ Nb.out _; (with_reducible repeat (first | refine qa ?_ _ | refine qb ?_ | refine qc ?_ _)); exact Kb.out) hb); have n3_ := Aside0.mk (blk_below (g := gb173) (o := .cells #[.int .i64 t165, .string t166, .int .i64 t167, .int .i64 t168, .int .i64 t169, .int .i64 t170, .int .i64 t171] 45 (0, 0)) (by (with_reducible repeat (first | refine qa ?_ _ | refine qb ?_ | refine qc ?_ _)); refine blk_put (cs := #[.int .i64 t165, .string t166, .int .i64 t167, .int .i64 t168, .int .i64 t169, .int .i64 t170, .int .i64 0]) ?_ 6 _ rfl; (with_reducible repeat (first | refine qa ?_ _ | refine qb ?_ | refine qc ?_ _)); refine blk_put (cs := #[.int .i64 t165, .string t166, .int .i64 t167, .int .i64 t168, .int .i64 t169, .int .i64 0, .int .i64 0]) ?_ 5 _ rfl; (with_reducible repeat (first | refine qa ?_ _ | refine qb ?_ | refine qc ?_ _)); refine blk_put (cs := #[.int .i64 t165, .string t166, .int .i64 t167, .int .i64 t168, .int .i64 0, .int .i64 0, .int .i64 0]) ?_ 4 _ rfl; (with_reducible repeat (first | refine qa ?_ _ | refine qb ?_ | refine qc ?_ _)); refine blk_put (cs := #[.int .i64 t165, .string t166, .int .i64 t167, .int .i64 0, .int .i64 0, .int .i64 0, .int .i64 0]) ?_ 3 _ rfl; (with_reducible repeat (first | refine qa ?_ _ | refine qb ?_ | refine qc ?_ _)); refine blk_put (cs := #[.int .i64 t165, .string t166, .int .i64 0, .int .i64 0, .int .i64 0, .int .i64 0, .int .i64 0]) ?_ 2 _ rfl; (with_reducible repeat (first | refine qa ?_ _ | refine qb ?_ | refine qc ?_ _)); refine blk_put (cs := #[.int .i64 t165, .string (⟨#[]⟩ : ByteArray), .int .i64 0, .int .i64 0, .int .i64 0, .int .i64 0, .int .i64 0]) ?_ 1 _ rfl; (with_reducible repeat (first | refine qa ?_ _ | refine qb ?_ | refine qc ?_ _)); refine blk_put (cs := #[.int .i64 0, .string (⟨#[]⟩ : ByteArray), .int .i64 0, .int .i64 0, .int .i64 0, .int .i64 0, .int .i64 0]) ?_ 0 _ rfl; (with_reducible repeat (first | refine qa ?_ _ | refine qb ?_ | refine qc ?_ _)); exact Kc.out) hb); have n4_ := Aside0.mk (below_step (by repeat (first | (with_reducible first | exact HB.out | apply qg | apply qe | apply qf | refine qd ?_ Ga.out | refine qd ?_ Gb.out | refine qd ?_ Gc.out) | exact HB.out)) hb); clear HO155; clear Ka; clear Kb; clear Kc; clear HB; have HO155 := n0_; have Ka := n1_; have Kb := n2_; have Kc := n3_; have HB := n4_; clear n0_ n1_ n2_ n3_ n4_; (try clear hb); (try clear hb2); (try clear hk); (try clear hi)))
      go_meet
      case rel => exact ⟨_, (true), (by first | rfl | (simp; done) | (simp [*]; done)), H', ⟨by first | omega | exact Nat.le_refl _⟩, ⟨by (with_reducible repeat (first | apply qk | apply qj | apply ql)); exact HO155.out⟩, ⟨by (with_reducible repeat (first | refine qa ?_ _ | refine qb ?_ | refine qc ?_ _)); exact Ka.out⟩, ⟨by (with_reducible repeat (first | refine qa ?_ _ | refine qb ?_ | refine qc ?_ _)); exact Kb.out⟩, ⟨by (with_reducible repeat (first | refine qa ?_ _ | refine qb ?_ | refine qc ?_ _)); exact Kc.out⟩, ⟨by repeat (first | (with_reducible first | exact HB.out | apply qg | apply qe | apply qf | refine qd ?_ Ga.out | refine qd ?_ Gb.out | refine qd ?_ Gc.out) | exact HB.out)⟩⟩
    ·
     rw [if_neg c36] at H
     have c36b0 : (t156 == t152) = false := beq_eq_false_iff_ne.mpr c36
     have c36b1 : (t156 != t152) = true := bne_iff_ne.mpr c36
     have H' := Aside0.mk H
     clear H
     have hnb56 := Ne.out
     have hnc56 := Nf.out
     have hnb57 := Na.out
     have hnc57 := Nc.out
     have hcz58_0 : w30.cell? ⟨gb149, 0, none⟩ = some (.int .i64 a0_0) := (qi Ka.out 0).trans rfl
     have hcz58_1 : w30.cell? ⟨gb149, 1, none⟩ = some (.int .i64 a0_1) := (qi Ka.out 1).trans rfl
     have hcz58_2 : w30.cell? ⟨gb149, 2, none⟩ = some (.int .i64 a0_2) := (qi Ka.out 2).trans rfl
     have hfz58_0 := qh Ka.out 0
     have hfz58_1 := qh Ka.out 1
     have hfz58_2 := qh Ka.out 2
     go_wp2_with (first | ((with_reducible refine gate_callee (f := 25) rfl ?_); refine goesL_ (some 71) rfl rfl Try.func25 (by kernel_rfl) rfl #[.agg #[.int .i64 a0_0, .int .i64 a0_1, .int .i64 a0_2], .slice A1 l1.length c1] rfl (by (try simp only [List.map_toArray, List.map_cons, List.map_nil]); first | done | rfl | (simp only [List.length_drop, List.length_take]; rfl)) ?_; (with_reducible refine (burden_Check.calls k a0_0 a0_1 a0_2 _ _ l1 t174 _ ?side1 ?side2 A34.out).mono ?_); (case side1 => exact Kd.C_below HR1.out (by repeat (first | (with_reducible first | exact HB.out | apply qg | apply qe | apply qf | refine qd ?_ Ga.out | refine qd ?_ Gb.out | refine qd ?_ Gc.out) | exact HB.out))); (case side2 => exact HC1.out); rintro e w59 ⟨rfl, hb⟩; refine ⟨_, rfl, ?_⟩; have n0_ := Aside0.mk (Kd.R_below (by (with_reducible repeat (first | apply qk | apply qj | apply ql)); exact (Kd.R_mono (Kd.R_far (p := ⟨gb173, 6, none⟩) (Kd.R_far (p := ⟨gb173, 5, none⟩) (Kd.R_far (p := ⟨gb173, 4, none⟩) (Kd.R_far (p := ⟨gb173, 3, none⟩) (Kd.R_far (p := ⟨gb173, 2, none⟩) (Kd.R_far (p := ⟨gb173, 1, none⟩) (Kd.R_far (p := ⟨gb173, 0, none⟩) (Kd.R_types HO155.out Kc.out (by decide)) (fun _ hk => hk.2) (.int .i64 t165)) (fun _ hk => hk.2) (.string t166)) (fun _ hk => hk.2) (.int .i64 t167)) (fun _ hk => hk.2) (.int .i64 t168)) (fun _ hk => hk.2) (.int .i64 t169)) (fun _ hk => hk.2) (.int .i64 t170)) (fun _ hk => hk.2) (.int .i64 t171)) (fun _ h_ => h_.1))) hb); have n1_ := Aside0.mk (blk_below (g := gb149) (o := .cells #[.int .i64 a0_0, .int .i64 a0_1, .int .i64 a0_2] 25 (0, 0)) (by (with_reducible repeat (first | refine qa ?_ _ | refine qb ?_ | refine qc ?_ _)); refine blk_far ?_ Na.out _; (with_reducible repeat (first | refine qa ?_ _ | refine qb ?_ | refine qc ?_ _)); refine blk_far ?_ Na.out _; (with_reducible repeat (first | refine qa ?_ _ | refine qb ?_ | refine qc ?_ _)); refine blk_far ?_ Na.out _; (with_reducible repeat (first | refine qa ?_ _ | refine qb ?_ | refine qc ?_ _)); refine blk_far ?_ Na.out _; (with_reducible repeat (first | refine qa ?_ _ | refine qb ?_ | refine qc ?_ _)); refine blk_far ?_ Na.out _; (with_reducible repeat (first | refine qa ?_ _ | refine qb ?_ | refine qc ?_ _)); refine blk_far ?_ Na.out _; (with_reducible repeat (first | refine qa ?_ _ | refine qb ?_ | refine qc ?_ _)); refine blk_far ?_ Na.out _; (with_reducible repeat (first | refine qa ?_ _ | refine qb ?_ | refine qc ?_ _)); exact Ka.out) hb); have n2_ := Aside0.mk (blk_below (g := gb150) (o := .cells #[.int .i64 a2_0, .string a2_1, .int .i64 a2_2, .int .i64 a2_3, .int .i64 a2_4, .int .i64 a2_5, .int .i64 a2_6] 45 (0, 0)) (by (with_reducible repeat (first | refine qa ?_ _ | refine qb ?_ | refine qc ?_ _)); refine blk_far ?_ Nb.out _; (with_reducible repeat (first | refine qa ?_ _ | refine qb ?_ | refine qc ?_ _)); refine blk_far ?_ Nb.out _; (with_reducible repeat (first | refine qa ?_ _ | refine qb ?_ | refine qc ?_ _)); refine blk_far ?_ Nb.out _; (with_reducible repeat (first | refine qa ?_ _ | refine qb ?_ | refine qc ?_ _)); refine blk_far ?_ Nb.out _; (with_reducible repeat (first | refine qa ?_ _ | refine qb ?_ | refine qc ?_ _)); refine blk_far ?_ Nb.out _; (with_reducible repeat (first | refine qa ?_ _ | refine qb ?_ | refine qc ?_ _)); refine blk_far ?_ Nb.out _; (with_reducible repeat (first | refine qa ?_ _ | refine qb ?_ | refine qc ?_ _)); refine blk_far ?_ Nb.out _; (with_reducible repeat (first | refine qa ?_ _ | refine qb ?_ | refine qc ?_ _)); exact Kb.out) hb); have n3_ := Aside0.mk (blk_below (g := gb173) (o := .cells #[.int .i64 t165, .string t166, .int .i64 t167, .int .i64 t168, .int .i64 t169, .int .i64 t170, .int .i64 t171] 45 (0, 0)) (by (with_reducible repeat (first | refine qa ?_ _ | refine qb ?_ | refine qc ?_ _)); refine blk_put (cs := #[.int .i64 t165, .string t166, .int .i64 t167, .int .i64 t168, .int .i64 t169, .int .i64 t170, .int .i64 0]) ?_ 6 _ rfl; (with_reducible repeat (first | refine qa ?_ _ | refine qb ?_ | refine qc ?_ _)); refine blk_put (cs := #[.int .i64 t165, .string t166, .int .i64 t167, .int .i64 t168, .int .i64 t169, .int .i64 0, .int .i64 0]) ?_ 5 _ rfl; (with_reducible repeat (first | refine qa ?_ _ | refine qb ?_ | refine qc ?_ _)); refine blk_put (cs := #[.int .i64 t165, .string t166, .int .i64 t167, .int .i64 t168, .int .i64 0, .int .i64 0, .int .i64 0]) ?_ 4 _ rfl; (with_reducible repeat (first | refine qa ?_ _ | refine qb ?_ | refine qc ?_ _)); refine blk_put (cs := #[.int .i64 t165, .string t166, .int .i64 t167, .int .i64 0, .int .i64 0, .int .i64 0, .int .i64 0]) ?_ 3 _ rfl; (with_reducible repeat (first | refine qa ?_ _ | refine qb ?_ | refine qc ?_ _)); refine blk_put (cs := #[.int .i64 t165, .string t166, .int .i64 0, .int .i64 0, .int .i64 0, .int .i64 0, .int .i64 0]) ?_ 2 _ rfl; (with_reducible repeat (first | refine qa ?_ _ | refine qb ?_ | refine qc ?_ _)); refine blk_put (cs := #[.int .i64 t165, .string (⟨#[]⟩ : ByteArray), .int .i64 0, .int .i64 0, .int .i64 0, .int .i64 0, .int .i64 0]) ?_ 1 _ rfl; (with_reducible repeat (first | refine qa ?_ _ | refine qb ?_ | refine qc ?_ _)); refine blk_put (cs := #[.int .i64 0, .string (⟨#[]⟩ : ByteArray), .int .i64 0, .int .i64 0, .int .i64 0, .int .i64 0, .int .i64 0]) ?_ 0 _ rfl; (with_reducible repeat (first | refine qa ?_ _ | refine qb ?_ | refine qc ?_ _)); exact Kc.out) hb); have n4_ := Aside0.mk (below_step (by repeat (first | (with_reducible first | exact HB.out | apply qg | apply qe | apply qf | refine qd ?_ Ga.out | refine qd ?_ Gb.out | refine qd ?_ Gc.out) | exact HB.out)) hb); clear HO155; clear Ka; clear Kb; clear Kc; clear HB; have HO155 := n0_; have Ka := n1_; have Kb := n2_; have Kc := n3_; have HB := n4_; clear n0_ n1_ n2_ n3_ n4_; (try clear hb); (try clear hb2); (try clear hk); (try clear hi)))
     go_meet
     case rel => exact ⟨_, (true), (by first | rfl | (simp; done) | (simp [*]; done)), H', ⟨by first | omega | exact Nat.le_refl _⟩, ⟨by (with_reducible repeat (first | apply qk | apply qj | apply ql)); exact HO155.out⟩, ⟨by (with_reducible repeat (first | refine qa ?_ _ | refine qb ?_ | refine qc ?_ _)); exact Ka.out⟩, ⟨by (with_reducible repeat (first | refine qa ?_ _ | refine qb ?_ | refine qc ?_ _)); exact Kb.out⟩, ⟨by (with_reducible repeat (first | refine qa ?_ _ | refine qb ?_ | refine qc ?_ _)); exact Kc.out⟩, ⟨by repeat (first | (with_reducible first | exact HB.out | apply qg | apply qe | apply qf | refine qd ?_ Ga.out | refine qd ?_ Gb.out | refine qd ?_ Gc.out) | exact HB.out)⟩⟩
   ·
    rw [if_neg c35] at H
    have c35b0 : (t174 == t152) = false := beq_eq_false_iff_ne.mpr c35
    have c35b1 : (t174 != t152) = true := bne_iff_ne.mpr c35
    (first | rw [c35b0] | (simp only [i64_w, i32_w]; rw [c35b0]) | skip)
    have H' := Aside0.mk H
    clear H
    have hnb60 := Ne.out
    have hnc60 := Nf.out
    have hnb61 := Na.out
    have hnc61 := Nc.out
    have hcz62_0 : w30.cell? ⟨gb149, 0, none⟩ = some (.int .i64 a0_0) := (qi Ka.out 0).trans rfl
    have hcz62_1 : w30.cell? ⟨gb149, 1, none⟩ = some (.int .i64 a0_1) := (qi Ka.out 1).trans rfl
    have hcz62_2 : w30.cell? ⟨gb149, 2, none⟩ = some (.int .i64 a0_2) := (qi Ka.out 2).trans rfl
    have hfz62_0 := qh Ka.out 0
    have hfz62_1 := qh Ka.out 1
    have hfz62_2 := qh Ka.out 2
    go_wp2_with (first | ((with_reducible refine gate_callee (f := 25) rfl ?_); refine goesL_ (some 71) rfl rfl Try.func25 (by kernel_rfl) rfl #[.agg #[.int .i64 a0_0, .int .i64 a0_1, .int .i64 a0_2], .slice A1 l1.length c1] rfl (by (try simp only [List.map_toArray, List.map_cons, List.map_nil]); first | done | rfl | (simp only [List.length_drop, List.length_take]; rfl)) ?_; (with_reducible refine (burden_Check.calls k a0_0 a0_1 a0_2 _ _ l1 t174 _ ?side1 ?side2 A34.out).mono ?_); (case side1 => exact Kd.C_below HR1.out (by repeat (first | (with_reducible first | exact HB.out | apply qg | apply qe | apply qf | refine qd ?_ Ga.out | refine qd ?_ Gb.out | refine qd ?_ Gc.out) | exact HB.out))); (case side2 => exact HC1.out); rintro e w63 ⟨rfl, hb⟩; refine ⟨_, rfl, ?_⟩; have n0_ := Aside0.mk (Kd.R_below (by (with_reducible repeat (first | apply qk | apply qj | apply ql)); exact (Kd.R_mono (Kd.R_far (p := ⟨gb173, 6, none⟩) (Kd.R_far (p := ⟨gb173, 5, none⟩) (Kd.R_far (p := ⟨gb173, 4, none⟩) (Kd.R_far (p := ⟨gb173, 3, none⟩) (Kd.R_far (p := ⟨gb173, 2, none⟩) (Kd.R_far (p := ⟨gb173, 1, none⟩) (Kd.R_far (p := ⟨gb173, 0, none⟩) (Kd.R_types HO155.out Kc.out (by decide)) (fun _ hk => hk.2) (.int .i64 t165)) (fun _ hk => hk.2) (.string t166)) (fun _ hk => hk.2) (.int .i64 t167)) (fun _ hk => hk.2) (.int .i64 t168)) (fun _ hk => hk.2) (.int .i64 t169)) (fun _ hk => hk.2) (.int .i64 t170)) (fun _ hk => hk.2) (.int .i64 t171)) (fun _ h_ => h_.1))) hb); have n1_ := Aside0.mk (blk_below (g := gb149) (o := .cells #[.int .i64 a0_0, .int .i64 a0_1, .int .i64 a0_2] 25 (0, 0)) (by (with_reducible repeat (first | refine qa ?_ _ | refine qb ?_ | refine qc ?_ _)); refine blk_far ?_ Na.out _; (with_reducible repeat (first | refine qa ?_ _ | refine qb ?_ | refine qc ?_ _)); refine blk_far ?_ Na.out _; (with_reducible repeat (first | refine qa ?_ _ | refine qb ?_ | refine qc ?_ _)); refine blk_far ?_ Na.out _; (with_reducible repeat (first | refine qa ?_ _ | refine qb ?_ | refine qc ?_ _)); refine blk_far ?_ Na.out _; (with_reducible repeat (first | refine qa ?_ _ | refine qb ?_ | refine qc ?_ _)); refine blk_far ?_ Na.out _; (with_reducible repeat (first | refine qa ?_ _ | refine qb ?_ | refine qc ?_ _)); refine blk_far ?_ Na.out _; (with_reducible repeat (first | refine qa ?_ _ | refine qb ?_ | refine qc ?_ _)); refine blk_far ?_ Na.out _; (with_reducible repeat (first | refine qa ?_ _ | refine qb ?_ | refine qc ?_ _)); exact Ka.out) hb); have n2_ := Aside0.mk (blk_below (g := gb150) (o := .cells #[.int .i64 a2_0, .string a2_1, .int .i64 a2_2, .int .i64 a2_3, .int .i64 a2_4, .int .i64 a2_5, .int .i64 a2_6] 45 (0, 0)) (by (with_reducible repeat (first | refine qa ?_ _ | refine qb ?_ | refine qc ?_ _)); refine blk_far ?_ Nb.out _; (with_reducible repeat (first | refine qa ?_ _ | refine qb ?_ | refine qc ?_ _)); refine blk_far ?_ Nb.out _; (with_reducible repeat (first | refine qa ?_ _ | refine qb ?_ | refine qc ?_ _)); refine blk_far ?_ Nb.out _; (with_reducible repeat (first | refine qa ?_ _ | refine qb ?_ | refine qc ?_ _)); refine blk_far ?_ Nb.out _; (with_reducible repeat (first | refine qa ?_ _ | refine qb ?_ | refine qc ?_ _)); refine blk_far ?_ Nb.out _; (with_reducible repeat (first | refine qa ?_ _ | refine qb ?_ | refine qc ?_ _)); refine blk_far ?_ Nb.out _; (with_reducible repeat (first | refine qa ?_ _ | refine qb ?_ | refine qc ?_ _)); refine blk_far ?_ Nb.out _; (with_reducible repeat (first | refine qa ?_ _ | refine qb ?_ | refine qc ?_ _)); exact Kb.out) hb); have n3_ := Aside0.mk (blk_below (g := gb173) (o := .cells #[.int .i64 t165, .string t166, .int .i64 t167, .int .i64 t168, .int .i64 t169, .int .i64 t170, .int .i64 t171] 45 (0, 0)) (by (with_reducible repeat (first | refine qa ?_ _ | refine qb ?_ | refine qc ?_ _)); refine blk_put (cs := #[.int .i64 t165, .string t166, .int .i64 t167, .int .i64 t168, .int .i64 t169, .int .i64 t170, .int .i64 0]) ?_ 6 _ rfl; (with_reducible repeat (first | refine qa ?_ _ | refine qb ?_ | refine qc ?_ _)); refine blk_put (cs := #[.int .i64 t165, .string t166, .int .i64 t167, .int .i64 t168, .int .i64 t169, .int .i64 0, .int .i64 0]) ?_ 5 _ rfl; (with_reducible repeat (first | refine qa ?_ _ | refine qb ?_ | refine qc ?_ _)); refine blk_put (cs := #[.int .i64 t165, .string t166, .int .i64 t167, .int .i64 t168, .int .i64 0, .int .i64 0, .int .i64 0]) ?_ 4 _ rfl; (with_reducible repeat (first | refine qa ?_ _ | refine qb ?_ | refine qc ?_ _)); refine blk_put (cs := #[.int .i64 t165, .string t166, .int .i64 t167, .int .i64 0, .int .i64 0, .int .i64 0, .int .i64 0]) ?_ 3 _ rfl; (with_reducible repeat (first | refine qa ?_ _ | refine qb ?_ | refine qc ?_ _)); refine blk_put (cs := #[.int .i64 t165, .string t166, .int .i64 0, .int .i64 0, .int .i64 0, .int .i64 0, .int .i64 0]) ?_ 2 _ rfl; (with_reducible repeat (first | refine qa ?_ _ | refine qb ?_ | refine qc ?_ _)); refine blk_put (cs := #[.int .i64 t165, .string (⟨#[]⟩ : ByteArray), .int .i64 0, .int .i64 0, .int .i64 0, .int .i64 0, .int .i64 0]) ?_ 1 _ rfl; (with_reducible repeat (first | refine qa ?_ _ | refine qb ?_ | refine qc ?_ _)); refine blk_put (cs := #[.int .i64 0, .string (⟨#[]⟩ : ByteArray), .int .i64 0, .int .i64 0, .int .i64 0, .int .i64 0, .int .i64 0]) ?_ 0 _ rfl; (with_reducible repeat (first | refine qa ?_ _ | refine qb ?_ | refine qc ?_ _)); exact Kc.out) hb); have n4_ := Aside0.mk (below_step (by repeat (first | (with_reducible first | exact HB.out | apply qg | apply qe | apply qf | refine qd ?_ Ga.out | refine qd ?_ Gb.out | refine qd ?_ Gc.out) | exact HB.out)) hb); clear HO155; clear Ka; clear Kb; clear Kc; clear HB; have HO155 := n0_; have Ka := n1_; have Kb := n2_; have Kc := n3_; have HB := n4_; clear n0_ n1_ n2_ n3_ n4_; (try clear hb); (try clear hb2); (try clear hk); (try clear hi)))
    go_meet
    case rel => exact ⟨_, (true), (by first | rfl | (simp; done) | (simp [*]; done)), H', ⟨by first | omega | exact Nat.le_refl _⟩, ⟨by (with_reducible repeat (first | apply qk | apply qj | apply ql)); exact HO155.out⟩, ⟨by (with_reducible repeat (first | refine qa ?_ _ | refine qb ?_ | refine qc ?_ _)); exact Ka.out⟩, ⟨by (with_reducible repeat (first | refine qa ?_ _ | refine qb ?_ | refine qc ?_ _)); exact Kb.out⟩, ⟨by (with_reducible repeat (first | refine qa ?_ _ | refine qb ?_ | refine qc ?_ _)); exact Kc.out⟩, ⟨by repeat (first | (with_reducible first | exact HB.out | apply qg | apply qe | apply qf | refine qd ?_ Ga.out | refine qd ?_ Gb.out | refine qd ?_ Gc.out) | exact HB.out)⟩⟩
  case rest =>
   clear HC12
   try clear c1
   try clear c2
   try clear p2
   try clear c3
   try clear c4
   try clear c5
   try clear c6
   try clear c15
   try clear c16
   try clear c17
   try clear c20
   try clear c21
   try clear c22
   try clear c23
   try clear c24
   try clear c25
   try clear c31
   try clear c32
   try clear c35
   try clear c35b0 c35b1
   try clear c36
   try clear c36b0 c36b1
   try clear c37
   try clear c37b0 c37b1
   try clear c38
   try clear c38b0 c38b1
   try clear c39
   try clear c39b0 c39b1
   try clear c40
   try clear c41
   try clear c44
   try clear c45
   try clear c48
   try clear c49
   try clear c52
   try clear c53
   try clear c56
   try clear c57
   try clear c60
   try clear c61
   try clear hcz17_0 hcz17_1 hcz17_2
   try clear hcz19_0 hcz19_1 hcz19_2
   try clear hcz21_0 hcz21_1 hcz21_2
   try clear hcz23_0 hcz23_1 hcz23_2
   try clear hcz25_0 hcz25_1 hcz25_2
   try clear hcz27_0 hcz27_1 hcz27_2
   try clear hcz28_0 hcz28_1 hcz28_2 hcz28_3 hcz28_4 hcz28_5 hcz28_6
   try clear hcz33_0 hcz33_1 hcz33_2 hcz33_3 hcz33_4 hcz33_5 hcz33_6
   try clear hcz42_0 hcz42_1 hcz42_2
   try clear hcz46_0 hcz46_1 hcz46_2
   try clear hcz50_0 hcz50_1 hcz50_2
   try clear hcz54_0 hcz54_1 hcz54_2
   try clear hcz58_0 hcz58_1 hcz58_2
   try clear hcz62_0 hcz62_1 hcz62_2
   try clear hfz17_0 hfz17_1 hfz17_2
   try clear hfz19_0 hfz19_1 hfz19_2
   try clear hfz21_0 hfz21_1 hfz21_2
   try clear hfz23_0 hfz23_1 hfz23_2
   try clear hfz25_0 hfz25_1 hfz25_2
   try clear hfz27_0 hfz27_1 hfz27_2
   try clear hfz28_0 hfz28_1 hfz28_2 hfz28_3 hfz28_4 hfz28_5 hfz28_6
   try clear hfz33_0 hfz33_1 hfz33_2 hfz33_3 hfz33_4 hfz33_5 hfz33_6
   try clear hfz42_0 hfz42_1 hfz42_2
   try clear hfz46_0 hfz46_1 hfz46_2
   try clear hfz50_0 hfz50_1 hfz50_2
   try clear hfz54_0 hfz54_1 hfz54_2
   try clear hfz58_0 hfz58_1 hfz58_2
   try clear hfz62_0 hfz62_1 hfz62_2
   obtain ⟨kq, x98_11, rfl, HA, HJ11, HO_8, Ka, Kb, Kc, HB⟩ := hcut
   cases kq with
   | zero => exact absurd HA.out (by simp [mootlaw4_BurdenTells.j0])
   | succ kj11 =>
    have H := HA.out
    clear HA
    simp only [mootlaw4_BurdenTells.j0] at H
    by_cases c64 : x98_11 = true
    ·
     subst c64
     have H1 : (some false) = some r := by rw [if_pos rfl] at H; exact H
     clear H
     have H := H1
     clear H1
     obtain rfl := Option.some.inj H
     go_wp2
     go_ret
     exact ⟨by first | rfl | (simp [errW_none, errW_some] <;> rfl) | (simp [*, errW_none, errW_some] <;> rfl), by repeat (first | (with_reducible first | exact HB.out | apply qg | apply qe | apply qf | refine qd ?_ Ga.out | refine qd ?_ Gb.out | refine qd ?_ Gc.out) | exact HB.out)⟩
    ·
     replace c64 := Bool.eq_false_iff.mpr c64
     subst c64
     have H1 : (if t152 = 0 then (mootlaw4_BurdenTells.l0 kj11 l1 t153 t157 t158 t160 t162 t163 ([] : List Int) ([] : List Int) l1 (l1.length : Int) 0 a0_0 a0_1 a0_2 a2_0 a2_1 a2_2 a2_3 a2_4 a2_5 a2_6 t165 t166 t167 t168 t169 t170 t171) else (if (t153.length : Int) = 0 then (if (wrap64 ((wrap64 ((wrap64 (t157 + t158)) + t160)) + t163)) = 0 then (if t162 = true then (some false) else (some (t165 == 0 && (t166.toList == ([] : List UInt8) && ((t167 == 0 && (t168 == 0)) && (t169 == 0 && (t170 == 0 && (t171 == 0)))))))) else (some false)) else (some false))) = some r := by rw [if_neg (show ¬ (false = true) by decide)] at H; exact H
     clear H
     have H := H1
     clear H1
     by_cases c65 : t152 = 0
     ·
      rw [if_pos c65] at H
      have c65b0 : (t152 == 0) = true := beq_iff_eq.mpr c65
      have c65b1 : (t152 != 0) = false := bne_eq_false_iff_eq.mpr c65
      clear c65
      have H' := Aside0.mk H
      clear H
      go_wp2
      go_loopg [20, 21, 125] kj11 (fun kq v20 v21 v125 w' => ∃ (x20_2 : List Int) (x21_2 : List Int) (x125_2 : Int), v125 = .int .i64 x125_2 ∧ Aside0 (mootlaw4_BurdenTells.l0 kq l1 t153 t157 t158 t160 t162 t163 x20_2 x21_2 l1 (l1.length : Int) x125_2 a0_0 a0_1 a0_2 a2_0 a2_1 a2_2 a2_3 a2_4 a2_5 a2_6 t165 t166 t167 t168 t169 t170 t171 = some r) ∧ Aside0 (kq ≤ kj11) ∧ Aside0 (Kd.R Kd.bool 4 w' w.heap.size (fun _ => True) v154 t153) ∧ Aside0 (Kd.R (Kd.int .i64) 3 w' w.heap.size (fun k_ => some k_ ≠ (v21 : Value).ownBlock) v20 x20_2) ∧ Aside0 (Kd.R (Kd.int .i64) 3 w' w.heap.size (fun k_ => some k_ ≠ (v20 : Value).ownBlock) v21 x21_2) ∧ Aside0 (w'.heap[gb149]? = some (.cells #[.int .i64 a0_0, .int .i64 a0_1, .int .i64 a0_2] 25 (0, 0))) ∧ Aside0 (w'.heap[gb150]? = some (.cells #[.int .i64 a2_0, .string a2_1, .int .i64 a2_2, .int .i64 a2_3, .int .i64 a2_4, .int .i64 a2_5, .int .i64 a2_6] 45 (0, 0))) ∧ Aside0 (w'.heap[gb173]? = some (.cells #[.int .i64 t165, .string t166, .int .i64 t167, .int .i64 t168, .int .i64 t169, .int .i64 t170, .int .i64 t171] 45 (0, 0))) ∧ Aside0 (Below w.heap.size w w'))
      case atStart => exact ⟨(([] : List Int)), (([] : List Int)), (0), (by first | rfl | (simp; done) | (simp [*]; done)), H', ⟨Nat.le_refl _⟩, ⟨by (with_reducible repeat (first | apply qk | apply qj | apply ql)); exact HO_8.out⟩, ⟨by first | exact Kd.R_nil _ _ _ _ _ | exact Kd.N_nil _ _ _ _ _ | exact Kd.V_nil _ _ _ _ _ | exact Kd.Q_nil _ _ _ _ _ | exact Kd.S_nil _ _ _ _ _⟩, ⟨by first | exact Kd.R_nil _ _ _ _ _ | exact Kd.N_nil _ _ _ _ _ | exact Kd.V_nil _ _ _ _ _ | exact Kd.Q_nil _ _ _ _ _ | exact Kd.S_nil _ _ _ _ _⟩, ⟨by (with_reducible repeat (first | refine qa ?_ _ | refine qb ?_ | refine qc ?_ _)); exact Ka.out⟩, ⟨by (with_reducible repeat (first | refine qa ?_ _ | refine qb ?_ | refine qc ?_ _)); exact Kb.out⟩, ⟨by (with_reducible repeat (first | refine qa ?_ _ | refine qb ?_ | refine qc ?_ _)); exact Kc.out⟩, ⟨by repeat (first | (with_reducible first | exact HB.out | apply qg | apply qe | apply qf | refine qd ?_ Ga.out | refine qd ?_ Gb.out | refine qd ?_ Gc.out) | exact HB.out)⟩⟩
      case round =>
       clear H'
       try clear c1
       try clear c2
       try clear p2
       try clear c3
       try clear c4
       try clear c5
       try clear c6
       try clear p6
       try clear c15
       try clear c16
       try clear c17
       try clear c20
       try clear c21
       try clear c22
       try clear c23
       try clear c24
       try clear c25
       try clear c31
       try clear c32
       try clear c35
       try clear c35b0 c35b1
       try clear c36
       try clear c36b0 c36b1
       try clear c37
       try clear c37b0 c37b1
       try clear c38
       try clear c38b0 c38b1
       try clear c39
       try clear c39b0 c39b1
       try clear c40
       try clear c41
       try clear c44
       try clear c45
       try clear c48
       try clear c49
       try clear c52
       try clear c53
       try clear c56
       try clear c57
       try clear c60
       try clear c61
       try clear c64
       try clear p64
       try clear c65
       try clear c65b0 c65b1
       try clear hcz17_0 hcz17_1 hcz17_2
       try clear hcz19_0 hcz19_1 hcz19_2
       try clear hcz21_0 hcz21_1 hcz21_2
       try clear hcz23_0 hcz23_1 hcz23_2
       try clear hcz25_0 hcz25_1 hcz25_2
       try clear hcz27_0 hcz27_1 hcz27_2
       try clear hcz28_0 hcz28_1 hcz28_2 hcz28_3 hcz28_4 hcz28_5 hcz28_6
       try clear hcz33_0 hcz33_1 hcz33_2 hcz33_3 hcz33_4 hcz33_5 hcz33_6
       try clear hcz42_0 hcz42_1 hcz42_2
       try clear hcz46_0 hcz46_1 hcz46_2
       try clear hcz50_0 hcz50_1 hcz50_2
       try clear hcz54_0 hcz54_1 hcz54_2
       try clear hcz58_0 hcz58_1 hcz58_2
       try clear hcz62_0 hcz62_1 hcz62_2
       try clear hfz17_0 hfz17_1 hfz17_2
       try clear hfz19_0 hfz19_1 hfz19_2
       try clear hfz21_0 hfz21_1 hfz21_2
       try clear hfz23_0 hfz23_1 hfz23_2
       try clear hfz25_0 hfz25_1 hfz25_2
       try clear hfz27_0 hfz27_1 hfz27_2
       try clear hfz28_0 hfz28_1 hfz28_2 hfz28_3 hfz28_4 hfz28_5 hfz28_6
       try clear hfz33_0 hfz33_1 hfz33_2 hfz33_3 hfz33_4 hfz33_5 hfz33_6
       try clear hfz42_0 hfz42_1 hfz42_2
       try clear hfz46_0 hfz46_1 hfz46_2
       try clear hfz50_0 hfz50_1 hfz50_2
       try clear hfz54_0 hfz54_1 hfz54_2
       try clear hfz58_0 hfz58_1 hfz58_2
       try clear hfz62_0 hfz62_1 hfz62_2
       try clear p2
       obtain ⟨x20_2, x21_2, x125_2, rfl, HA, HK2, HO_8, HO_20, HO_21, Ka, Kb, Kc, HB⟩ := hrel
       cases gk with
       | zero => exact absurd HA.out (by simp [mootlaw4_BurdenTells.l0])
       | succ k2 =>
        have H := HA.out
        clear HA
        simp only [mootlaw4_BurdenTells.l0] at H
        by_cases c66 : x125_2 < (l1.length : Int)
        · as_aux_lemma =>
         rw [if_pos c66] at H
         have c66b0 : decide (x125_2 < (l1.length : Int)) = true := decide_eq_true c66
         clear c66
         by_cases c67 : 0 ≤ x125_2
         rotate_left
         ·
          rw [if_neg c67] at H
          exact absurd H (by simp)
         rw [if_pos c67] at H
         have c67b0 : decide (0 ≤ x125_2) = true := decide_eq_true c67
         clear c67
         by_cases c68 : x125_2 < (l1.length : Int)
         rotate_left
         ·
          rw [if_neg c68] at H
          exact absurd H (by simp)
         rw [if_pos c68] at H
         have c68b0 : decide (x125_2 < (l1.length : Int)) = true := decide_eq_true c68
         clear c68
         obtain ⟨y177, hy177⟩ : ∃ y_ : List Int, y_ = (([(rd_T34 l1 x125_2).f1] : List Int)) := ⟨_, rfl⟩
         replace H : (if x20_2.length + y177.length < 17592186044416 then ((some (([(rd_T34 l1 x125_2).f2] : List Int) : List Int)).bind fun y183 => (if x21_2.length + y183.length < 17592186044416 then (mootlaw4_BurdenTells.l0 k2 l1 t153 t157 t158 t160 t162 t163 (x20_2 ++ y177) (x21_2 ++ y183) l1 (l1.length : Int) (wrap64 (x125_2 + 1)) a0_0 a0_1 a0_2 a2_0 a2_1 a2_2 a2_3 a2_4 a2_5 a2_6 t165 t166 t167 t168 t169 t170 t171) else (none))) else (none)) = some r := by first | (rw [hy177]; with_reducible exact H) | (have H2_ := (Option.bind_some _ _).symm.trans H; rw [hy177]; with_reducible exact H2_) | (have H2_ := (Option.bind_some _ _).symm.trans H; with_reducible exact H2_) | with_reducible exact H | (rw [hy177]; exact H) | exact H
         have Ny177 := Aside0.mk hy177
         clear hy177
         by_cases c69 : x20_2.length + y177.length < 17592186044416
         rotate_left
         ·
          rw [if_neg c69] at H
          exact absurd H (by simp)
         rw [if_pos c69] at H
         have LMc69 := Aside0.mk c69
         clear c69
         obtain ⟨y180, hy180⟩ : ∃ y_ : List Int, y_ = (x20_2 ++ y177) := ⟨_, rfl⟩
         replace H : ((some (([(rd_T34 l1 x125_2).f2] : List Int) : List Int)).bind fun y183 => (if x21_2.length + y183.length < 17592186044416 then (mootlaw4_BurdenTells.l0 k2 l1 t153 t157 t158 t160 t162 t163 y180 (x21_2 ++ y183) l1 (l1.length : Int) (wrap64 (x125_2 + 1)) a0_0 a0_1 a0_2 a2_0 a2_1 a2_2 a2_3 a2_4 a2_5 a2_6 t165 t166 t167 t168 t169 t170 t171) else (none))) = some r := by first | (rw [hy180]; with_reducible exact H) | (have H2_ := (Option.bind_some _ _).symm.trans H; rw [hy180]; with_reducible exact H2_) | (have H2_ := (Option.bind_some _ _).symm.trans H; with_reducible exact H2_) | with_reducible exact H | (rw [hy180]; exact H) | exact H
         have Ny180 := Aside0.mk hy180
         clear hy180
         obtain ⟨y183, hy183⟩ : ∃ y_ : List Int, y_ = (([(rd_T34 l1 x125_2).f2] : List Int)) := ⟨_, rfl⟩
         replace H : (if x21_2.length + y183.length < 17592186044416 then (mootlaw4_BurdenTells.l0 k2 l1 t153 t157 t158 t160 t162 t163 y180 (x21_2 ++ y183) l1 (l1.length : Int) (wrap64 (x125_2 + 1)) a0_0 a0_1 a0_2 a2_0 a2_1 a2_2 a2_3 a2_4 a2_5 a2_6 t165 t166 t167 t168 t169 t170 t171) else (none)) = some r := by first | (rw [hy183]; with_reducible exact H) | (have H2_ := (Option.bind_some _ _).symm.trans H; rw [hy183]; with_reducible exact H2_) | (have H2_ := (Option.bind_some _ _).symm.trans H; with_reducible exact H2_) | with_reducible exact H | (rw [hy183]; exact H) | exact H
         have Ny183 := Aside0.mk hy183
         clear hy183
         by_cases c70 : x21_2.length + y183.length < 17592186044416
         rotate_left
         ·
          rw [if_neg c70] at H
          exact absurd H (by simp)
         rw [if_pos c70] at H
         have LMc70 := Aside0.mk c70
         clear c70
         obtain ⟨y186, hy186⟩ : ∃ y_ : List Int, y_ = (x21_2 ++ y183) := ⟨_, rfl⟩
         replace H : (mootlaw4_BurdenTells.l0 k2 l1 t153 t157 t158 t160 t162 t163 y180 y186 l1 (l1.length : Int) (wrap64 (x125_2 + 1)) a0_0 a0_1 a0_2 a2_0 a2_1 a2_2 a2_3 a2_4 a2_5 a2_6 t165 t166 t167 t168 t169 t170 t171) = some r := by first | (rw [hy186]; with_reducible exact H) | (have H2_ := (Option.bind_some _ _).symm.trans H; rw [hy186]; with_reducible exact H2_) | (have H2_ := (Option.bind_some _ _).symm.trans H; with_reducible exact H2_) | with_reducible exact H | (rw [hy186]; exact H) | exact H
         have Ny186 := Aside0.mk hy186
         clear hy186
         have H' := Aside0.mk H
         clear H
         have p175 : 0 ≤ (x125_2 : Int) := of_decide_eq_true (by first | (with_reducible assumption) | assumption)
         have q175 : x125_2 < (l1.length : Int) := of_decide_eq_true (by first | (with_reducible assumption) | assumption)
         obtain ⟨ad175, e175, hx175_0, hx175_1, hx175_2⟩ := at_T34 HR1.out x125_2 p175 q175
         cases e175
         replace hx175_0 := (HB.out.cell (World.block_lt_of_cell? w _ hx175_0)).trans hx175_0
         replace hx175_1 := (HB.out.cell (World.block_lt_of_cell? w _ hx175_1)).trans hx175_1
         replace hx175_2 := (HB.out.cell (World.block_lt_of_cell? w _ hx175_2)).trans hx175_2
         replace p175 := eq_true p175
         replace q175 := eq_true q175
         try go_wp2_with (first | ((with_reducible refine gate_dst (N := 23) rfl ?_); refine box_event ?hg (N := 23) ?hd (cs := #[.bool false, .int .i64 0, .int .i64 0]) (t := 34) ?hr ?_; (case hd => rfl); (case hg => rfl); (case hr => first | (go_simp; done) | (go_simp; rfl)); intro gb176 hg w71 hbox hb; have n0_ := Aside0.mk (Kd.R_below (by (with_reducible repeat (first | apply qk | apply qj | apply ql)); exact HO_8.out) hb); have n1_ := Aside0.mk (Kd.R_below (by (with_reducible repeat (first | apply qk | apply qj | apply ql)); exact HO_20.out) hb); have n2_ := Aside0.mk (Kd.R_below (by (with_reducible repeat (first | apply qk | apply qj | apply ql)); exact HO_21.out) hb); have n3_ := Aside0.mk (blk_below (g := gb149) (o := .cells #[.int .i64 a0_0, .int .i64 a0_1, .int .i64 a0_2] 25 (0, 0)) (by (with_reducible repeat (first | refine qa ?_ _ | refine qb ?_ | refine qc ?_ _)); exact Ka.out) hb); have n4_ := Aside0.mk (blk_below (g := gb150) (o := .cells #[.int .i64 a2_0, .string a2_1, .int .i64 a2_2, .int .i64 a2_3, .int .i64 a2_4, .int .i64 a2_5, .int .i64 a2_6] 45 (0, 0)) (by (with_reducible repeat (first | refine qa ?_ _ | refine qb ?_ | refine qc ?_ _)); exact Kb.out) hb); have n5_ := Aside0.mk (blk_below (g := gb173) (o := .cells #[.int .i64 t165, .string t166, .int .i64 t167, .int .i64 t168, .int .i64 t169, .int .i64 t170, .int .i64 t171] 45 (0, 0)) (by (with_reducible repeat (first | refine qa ?_ _ | refine qb ?_ | refine qc ?_ _)); exact Kc.out) hb); have n6_ := Aside0.mk (below_step (by repeat (first | (with_reducible first | exact HB.out | apply qg | apply qe | apply qf | refine qd ?_ Ga.out | refine qd ?_ Gb.out | refine qd ?_ Gc.out) | exact HB.out)) hb); have n7_ := Aside0.mk (hbox); have n8_ := Aside0.mk ((by rw [hg]; exact (below_size (by repeat (first | (with_reducible first | exact HB.out | apply qg | apply qe | apply qf | refine qd ?_ Ga.out | refine qd ?_ Gb.out | refine qd ?_ Gc.out) | exact HB.out))) : w.heap.size ≤ gb176)); have n9_ := Aside0.mk ((by rw [hg]; exact (below_size (by repeat (first | (with_reducible first | exact HB.out | apply qg | apply qe | apply qf | refine qd ?_ Ga.out | refine qd ?_ Gb.out | refine qd ?_ Gc.out) | exact HB.out))) : w.heap.size ≤ gb176)); have n10_ := Aside0.mk ((by rw [hg]; exact Nat.ne_of_lt (blk_lt (g := gb149) (o := .cells #[.int .i64 a0_0, .int .i64 a0_1, .int .i64 a0_2] 25 (0, 0)) (by (with_reducible repeat (first | refine qa ?_ _ | refine qb ?_ | refine qc ?_ _)); exact Ka.out)) : gb149 ≠ gb176)); have n11_ := Aside0.mk ((by rw [hg]; exact Nat.ne_of_gt (blk_lt (g := gb149) (o := .cells #[.int .i64 a0_0, .int .i64 a0_1, .int .i64 a0_2] 25 (0, 0)) (by (with_reducible repeat (first | refine qa ?_ _ | refine qb ?_ | refine qc ?_ _)); exact Ka.out)) : gb176 ≠ gb149)); have n12_ := Aside0.mk ((by rw [hg]; exact Nat.ne_of_lt (blk_lt (g := gb150) (o := .cells #[.int .i64 a2_0, .string a2_1, .int .i64 a2_2, .int .i64 a2_3, .int .i64 a2_4, .int .i64 a2_5, .int .i64 a2_6] 45 (0, 0)) (by (with_reducible repeat (first | refine qa ?_ _ | refine qb ?_ | refine qc ?_ _)); exact Kb.out)) : gb150 ≠ gb176)); have n13_ := Aside0.mk ((by rw [hg]; exact Nat.ne_of_gt (blk_lt (g := gb150) (o := .cells #[.int .i64 a2_0, .string a2_1, .int .i64 a2_2, .int .i64 a2_3, .int .i64 a2_4, .int .i64 a2_5, .int .i64 a2_6] 45 (0, 0)) (by (with_reducible repeat (first | refine qa ?_ _ | refine qb ?_ | refine qc ?_ _)); exact Kb.out)) : gb176 ≠ gb150)); have n14_ := Aside0.mk ((by rw [hg]; exact Nat.ne_of_lt (blk_lt (g := gb173) (o := .cells #[.int .i64 t165, .string t166, .int .i64 t167, .int .i64 t168, .int .i64 t169, .int .i64 t170, .int .i64 t171] 45 (0, 0)) (by (with_reducible repeat (first | refine qa ?_ _ | refine qb ?_ | refine qc ?_ _)); exact Kc.out)) : gb173 ≠ gb176)); have n15_ := Aside0.mk ((by rw [hg]; exact Nat.ne_of_gt (blk_lt (g := gb173) (o := .cells #[.int .i64 t165, .string t166, .int .i64 t167, .int .i64 t168, .int .i64 t169, .int .i64 t170, .int .i64 t171] 45 (0, 0)) (by (with_reducible repeat (first | refine qa ?_ _ | refine qb ?_ | refine qc ?_ _)); exact Kc.out)) : gb176 ≠ gb173)); clear HO_8; clear HO_20; clear HO_21; clear Ka; clear Kb; clear Kc; clear HB; have HO_8 := n0_; have HO_20 := n1_; have HO_21 := n2_; have Ka := n3_; have Kb := n4_; have Kc := n5_; have HB := n6_; have BK176 := n7_; have GW176 := n8_; have GE176 := n9_; have NB149_176 := n10_; have NB176_149 := n11_; have NB150_176 := n12_; have NB176_150 := n13_; have NB173_176 := n14_; have NB176_173 := n15_; clear n0_ n1_ n2_ n3_ n4_ n5_ n6_ n7_ n8_ n9_ n10_ n11_ n12_ n13_ n14_ n15_; clear hb hbox hg; have hnb72 := NB176_149.out; have hnc72 := NB149_176.out; have hnb73 := NB176_150.out; have hnc73 := NB150_176.out; have hnb74 := NB176_173.out; have hnc74 := NB173_176.out; have hcz75_0 : w71.cell? ⟨gb176, 0, none⟩ = some (.bool false) := (qi BK176.out 0).trans rfl; have hcz75_1 : w71.cell? ⟨gb176, 1, none⟩ = some (.int .i64 0) := (qi BK176.out 1).trans rfl; have hcz75_2 : w71.cell? ⟨gb176, 2, none⟩ = some (.int .i64 0) := (qi BK176.out 2).trans rfl; have hfz75_0 := qh BK176.out 0; have hfz75_1 := qh BK176.out 1; have hfz75_2 := qh BK176.out 2; obtain ⟨Ao76, co76, eo76⟩ := Kd.R_slice HO_20.out; subst eo76; obtain ⟨Ao77, co77, eo77⟩ := Kd.R_slice HO_21.out; subst eo77))
         have n0_ : Aside0 (Kd.R Kd.bool 4 (((w71.setCell ⟨gb176, 0, none⟩ (.bool ((rd_T34 l1 x125_2).f0))).setCell ⟨gb176, 1, none⟩ (.int .i64 ((rd_T34 l1 x125_2).f1))).setCell ⟨gb176, 2, none⟩ (.int .i64 ((rd_T34 l1 x125_2).f2))) w.heap.size (fun _ => True) v154 t153) := ⟨by (with_reducible repeat (first | apply qk | apply qj | apply ql)); exact Kd.R_mono (Kd.R_far (p := ⟨gb176, 2, none⟩) (Kd.R_far (p := ⟨gb176, 1, none⟩) (Kd.R_far (p := ⟨gb176, 0, none⟩) (Kd.R_types HO_8.out BK176.out (by decide)) (fun _ hk => hk.2) (.bool ((rd_T34 l1 x125_2).f0))) (fun _ hk => hk.2) (.int .i64 ((rd_T34 l1 x125_2).f1))) (fun _ hk => hk.2) (.int .i64 ((rd_T34 l1 x125_2).f2))) (fun _ hk => trivial)⟩
         have n1_ : Aside0 (Kd.R (Kd.int .i64) 3 (((w71.setCell ⟨gb176, 0, none⟩ (.bool ((rd_T34 l1 x125_2).f0))).setCell ⟨gb176, 1, none⟩ (.int .i64 ((rd_T34 l1 x125_2).f1))).setCell ⟨gb176, 2, none⟩ (.int .i64 ((rd_T34 l1 x125_2).f2))) w.heap.size (fun k_ => some k_ ≠ (.slice Ao77 x21_2.length co77 : Value).ownBlock) (.slice Ao76 x20_2.length co76) x20_2) := ⟨by (with_reducible repeat (first | apply qk | apply qj | apply ql)); exact Kd.R_mono (Kd.R_far (p := ⟨gb176, 2, none⟩) (Kd.R_far (p := ⟨gb176, 1, none⟩) (Kd.R_far (p := ⟨gb176, 0, none⟩) (Kd.R_types HO_20.out BK176.out (by decide)) (fun _ hk => hk.2) (.bool ((rd_T34 l1 x125_2).f0))) (fun _ hk => hk.2) (.int .i64 ((rd_T34 l1 x125_2).f1))) (fun _ hk => hk.2) (.int .i64 ((rd_T34 l1 x125_2).f2))) (fun _ hk => hk.1)⟩
         have n2_ : Aside0 (Kd.R (Kd.int .i64) 3 (((w71.setCell ⟨gb176, 0, none⟩ (.bool ((rd_T34 l1 x125_2).f0))).setCell ⟨gb176, 1, none⟩ (.int .i64 ((rd_T34 l1 x125_2).f1))).setCell ⟨gb176, 2, none⟩ (.int .i64 ((rd_T34 l1 x125_2).f2))) w.heap.size (fun k_ => some k_ ≠ (.slice Ao76 x20_2.length co76 : Value).ownBlock) (.slice Ao77 x21_2.length co77) x21_2) := ⟨by (with_reducible repeat (first | apply qk | apply qj | apply ql)); exact Kd.R_mono (Kd.R_far (p := ⟨gb176, 2, none⟩) (Kd.R_far (p := ⟨gb176, 1, none⟩) (Kd.R_far (p := ⟨gb176, 0, none⟩) (Kd.R_types HO_21.out BK176.out (by decide)) (fun _ hk => hk.2) (.bool ((rd_T34 l1 x125_2).f0))) (fun _ hk => hk.2) (.int .i64 ((rd_T34 l1 x125_2).f1))) (fun _ hk => hk.2) (.int .i64 ((rd_T34 l1 x125_2).f2))) (fun _ hk => hk.1)⟩
         have n3_ : Aside0 ((((w71.setCell ⟨gb176, 0, none⟩ (.bool ((rd_T34 l1 x125_2).f0))).setCell ⟨gb176, 1, none⟩ (.int .i64 ((rd_T34 l1 x125_2).f1))).setCell ⟨gb176, 2, none⟩ (.int .i64 ((rd_T34 l1 x125_2).f2))).heap[gb149]? = some (.cells #[.int .i64 a0_0, .int .i64 a0_1, .int .i64 a0_2] 25 (0, 0))) := ⟨by (with_reducible repeat (first | refine qa ?_ _ | refine qb ?_ | refine qc ?_ _)); refine blk_far ?_ NB149_176.out _; (with_reducible repeat (first | refine qa ?_ _ | refine qb ?_ | refine qc ?_ _)); refine blk_far ?_ NB149_176.out _; (with_reducible repeat (first | refine qa ?_ _ | refine qb ?_ | refine qc ?_ _)); refine blk_far ?_ NB149_176.out _; (with_reducible repeat (first | refine qa ?_ _ | refine qb ?_ | refine qc ?_ _)); exact Ka.out⟩
         have n4_ : Aside0 ((((w71.setCell ⟨gb176, 0, none⟩ (.bool ((rd_T34 l1 x125_2).f0))).setCell ⟨gb176, 1, none⟩ (.int .i64 ((rd_T34 l1 x125_2).f1))).setCell ⟨gb176, 2, none⟩ (.int .i64 ((rd_T34 l1 x125_2).f2))).heap[gb150]? = some (.cells #[.int .i64 a2_0, .string a2_1, .int .i64 a2_2, .int .i64 a2_3, .int .i64 a2_4, .int .i64 a2_5, .int .i64 a2_6] 45 (0, 0))) := ⟨by (with_reducible repeat (first | refine qa ?_ _ | refine qb ?_ | refine qc ?_ _)); refine blk_far ?_ NB150_176.out _; (with_reducible repeat (first | refine qa ?_ _ | refine qb ?_ | refine qc ?_ _)); refine blk_far ?_ NB150_176.out _; (with_reducible repeat (first | refine qa ?_ _ | refine qb ?_ | refine qc ?_ _)); refine blk_far ?_ NB150_176.out _; (with_reducible repeat (first | refine qa ?_ _ | refine qb ?_ | refine qc ?_ _)); exact Kb.out⟩
         have n5_ : Aside0 ((((w71.setCell ⟨gb176, 0, none⟩ (.bool ((rd_T34 l1 x125_2).f0))).setCell ⟨gb176, 1, none⟩ (.int .i64 ((rd_T34 l1 x125_2).f1))).setCell ⟨gb176, 2, none⟩ (.int .i64 ((rd_T34 l1 x125_2).f2))).heap[gb173]? = some (.cells #[.int .i64 t165, .string t166, .int .i64 t167, .int .i64 t168, .int .i64 t169, .int .i64 t170, .int .i64 t171] 45 (0, 0))) := ⟨by (with_reducible repeat (first | refine qa ?_ _ | refine qb ?_ | refine qc ?_ _)); refine blk_far ?_ NB173_176.out _; (with_reducible repeat (first | refine qa ?_ _ | refine qb ?_ | refine qc ?_ _)); refine blk_far ?_ NB173_176.out _; (with_reducible repeat (first | refine qa ?_ _ | refine qb ?_ | refine qc ?_ _)); refine blk_far ?_ NB173_176.out _; (with_reducible repeat (first | refine qa ?_ _ | refine qb ?_ | refine qc ?_ _)); exact Kc.out⟩
         have n6_ : Aside0 ((((w71.setCell ⟨gb176, 0, none⟩ (.bool ((rd_T34 l1 x125_2).f0))).setCell ⟨gb176, 1, none⟩ (.int .i64 ((rd_T34 l1 x125_2).f1))).setCell ⟨gb176, 2, none⟩ (.int .i64 ((rd_T34 l1 x125_2).f2))).heap[gb176]? = some (.cells #[.bool ((rd_T34 l1 x125_2).f0), .int .i64 ((rd_T34 l1 x125_2).f1), .int .i64 ((rd_T34 l1 x125_2).f2)] 34 (0, 0))) := ⟨by (with_reducible repeat (first | refine qa ?_ _ | refine qb ?_ | refine qc ?_ _)); refine blk_put (cs := #[.bool ((rd_T34 l1 x125_2).f0), .int .i64 ((rd_T34 l1 x125_2).f1), .int .i64 0]) ?_ 2 _ rfl; (with_reducible repeat (first | refine qa ?_ _ | refine qb ?_ | refine qc ?_ _)); refine blk_put (cs := #[.bool ((rd_T34 l1 x125_2).f0), .int .i64 0, .int .i64 0]) ?_ 1 _ rfl; (with_reducible repeat (first | refine qa ?_ _ | refine qb ?_ | refine qc ?_ _)); refine blk_put (cs := #[.bool false, .int .i64 0, .int .i64 0]) ?_ 0 _ rfl; (with_reducible repeat (first | refine qa ?_ _ | refine qb ?_ | refine qc ?_ _)); exact BK176.out⟩
         have n7_ : Aside0 (Below w.heap.size w (((w71.setCell ⟨gb176, 0, none⟩ (.bool ((rd_T34 l1 x125_2).f0))).setCell ⟨gb176, 1, none⟩ (.int .i64 ((rd_T34 l1 x125_2).f1))).setCell ⟨gb176, 2, none⟩ (.int .i64 ((rd_T34 l1 x125_2).f2)))) := ⟨by repeat (first | (with_reducible first | exact HB.out | apply qg | apply qe | apply qf | refine qd ?_ Ga.out | refine qd ?_ Gb.out | refine qd ?_ Gc.out | refine qd ?_ GE176.out) | exact HB.out)⟩
         (try clear HO_8)
         (try clear HO_20)
         (try clear HO_21)
         (try clear Ka)
         (try clear Kb)
         (try clear Kc)
         (try clear BK176)
         (try clear HB)
         generalize (((w71.setCell ⟨gb176, 0, none⟩ (.bool ((rd_T34 l1 x125_2).f0))).setCell ⟨gb176, 1, none⟩ (.int .i64 ((rd_T34 l1 x125_2).f1))).setCell ⟨gb176, 2, none⟩ (.int .i64 ((rd_T34 l1 x125_2).f2))) = w78 at n0_ n1_ n2_ n3_ n4_ n5_ n6_ n7_ ⊢
         have HO_8 := n0_
         have HO_20 := n1_
         have HO_21 := n2_
         have Ka := n3_
         have Kb := n4_
         have Kc := n5_
         have BK176 := n6_
         have HB := n7_
         clear n0_ n1_ n2_ n3_ n4_ n5_ n6_ n7_
         have n0_ := Aside0.mk (ql HO_8.out)
         have n1_ := Aside0.mk (ql HO_20.out)
         have n2_ := Aside0.mk (ql HO_21.out)
         have n3_ := Aside0.mk (qb Ka.out)
         have n4_ := Aside0.mk (qb Kb.out)
         have n5_ := Aside0.mk (qb Kc.out)
         have n6_ := Aside0.mk (qb BK176.out)
         have n7_ := Aside0.mk (qf HB.out)
         clear HO_8
         clear HO_20
         clear HO_21
         clear Ka
         clear Kb
         clear Kc
         clear BK176
         clear HB
         have HO_8 := n0_
         have HO_20 := n1_
         have HO_21 := n2_
         have Ka := n3_
         have Kb := n4_
         have Kc := n5_
         have BK176 := n6_
         have HB := n7_
         clear n0_ n1_ n2_ n3_ n4_ n5_ n6_ n7_
         refine start_ (n := 12) (S := fun w' => w'.cell? ⟨gb176, 0, none⟩ = some (.bool ((rd_T34 l1 x125_2).f0)) ∧ w'.cell? ⟨gb176, 1, none⟩ = some (.int .i64 ((rd_T34 l1 x125_2).f1)) ∧ w'.cell? ⟨gb176, 2, none⟩ = some (.int .i64 ((rd_T34 l1 x125_2).f2))) (ds := []) #[false, false, false, false, false, false, false, false, false, false, false, false] (by kernel_rfl) rfl rfl ⟨(qi BK176.out 0).trans rfl, (qi BK176.out 1).trans rfl, (qi BK176.out 2).trans rfl⟩ (fun hHeld => ?_); refine with_tabW mootlaw4_BurdenTells.tab17 mootlaw4_BurdenTells.bits17 (fun HT_ HW_ => ?_)
         generalize w78.drew = w79 at HO_8 HO_20 HO_21 Ka Kb Kc BK176 HB hHeld ⊢
         refine pure_ (i := 0) (N := some 129) (v := ?_) (a' := ?_) #[true, false, false, false, false, false, false, false, false, false, false, false] rfl rfl (any_of HT_.out (by kernel_rfl)) (fun _ _ _ h => h) (Or.inl ⟨by rfl, ?_⟩) ?_ ?_
         rotate_left
         ·
          intro w'
          go_simp
          with_reducible rfl
         rotate_left
         ·
          simp only [Act.put, List.setIfInBounds_toArray, List.set_cons_zero, List.set_cons_succ, i64_w, i32_w]
          rfl
         refine pure_ (i := 1) (N := some 130) (v := ?_) (a' := ?_) #[true, true, false, false, false, false, false, false, false, false, false, false] rfl rfl (any_of HT_.out (by kernel_rfl)) (fun _ _ _ h => h) (Or.inl ⟨by rfl, ?_⟩) ?_ ?_
         rotate_left
         ·
          intro w'
          go_simp
          with_reducible rfl
         rotate_left
         ·
          simp only [Act.put, List.setIfInBounds_toArray, List.set_cons_zero, List.set_cons_succ, i64_w, i32_w]
          rfl
         refine pure_ (i := 5) (N := some 134) (v := ?_) (a' := ?_) #[true, true, false, false, false, true, false, false, false, false, false, false] rfl rfl (any_of HT_.out (by kernel_rfl)) (fun _ _ _ h => h) (Or.inl ⟨by rfl, ?_⟩) ?_ ?_
         rotate_left
         ·
          intro w'
          go_simp
          with_reducible rfl
         rotate_left
         ·
          simp only [Act.put, List.setIfInBounds_toArray, List.set_cons_zero, List.set_cons_succ, i64_w, i32_w]
          rfl
         refine pure_ (i := 6) (N := some 135) (v := ?_) (a' := ?_) #[true, true, false, false, false, true, true, false, false, false, false, false] rfl rfl (any_of HT_.out (by kernel_rfl)) (fun _ _ _ h => h) (Or.inl ⟨by rfl, ?_⟩) ?_ ?_
         rotate_left
         ·
          intro w'
          go_simp
          with_reducible rfl
         rotate_left
         ·
          simp only [Act.put, List.setIfInBounds_toArray, List.set_cons_zero, List.set_cons_succ, i64_w, i32_w]
          rfl
         refine take_ (i := 2) (N := some 131) (v := ?_) (a' := ?_) #[true, true, true, false, false, true, true, false, false, false, false, false] rfl rfl (take_ofW HT_.out HW_.out (by kernel_rfl)) (fun _ _ _ h => h) (Or.inl ⟨by rfl, ?_⟩) hHeld ?_ ?_
         rotate_left
         ·
          rintro w' ⟨s0, s1, s2⟩
          go_simp
          with_reducible rfl
         rotate_left
         ·
          simp only [Act.put, List.setIfInBounds_toArray, List.set_cons_zero, List.set_cons_succ, i64_w, i32_w]
          rfl
         refine take_ (i := 7) (N := some 136) (v := ?_) (a' := ?_) #[true, true, true, false, false, true, true, true, false, false, false, false] rfl rfl (take_ofW HT_.out HW_.out (by kernel_rfl)) (fun _ _ _ h => h) (Or.inl ⟨by rfl, ?_⟩) hHeld ?_ ?_
         rotate_left
         ·
          rintro w' ⟨s0, s1, s2⟩
          go_simp
          with_reducible rfl
         rotate_left
         ·
          simp only [Act.put, List.setIfInBounds_toArray, List.set_cons_zero, List.set_cons_succ, i64_w, i32_w]
          rfl
         refine join_ (σ := Value × Value × Value) 3 #[true, true, true, true, true, true, true, true, true, false, false, false] (fun s_ => [(132, s_.1), (133, s_.2.1), (137, s_.2.2)]) (fun s_ w' => (w'.cell? ⟨gb176, 0, none⟩ = some (.bool ((rd_T34 l1 x125_2).f0)) ∧ w'.cell? ⟨gb176, 1, none⟩ = some (.int .i64 ((rd_T34 l1 x125_2).f1)) ∧ w'.cell? ⟨gb176, 2, none⟩ = some (.int .i64 ((rd_T34 l1 x125_2).f2))) ∧ (Kd.R (Kd.int .i64) 3 w' w.heap.size (fun k_ => some k_ ≠ (s_.2.1 : Value).ownBlock ∧ some k_ ≠ (s_.2.2 : Value).ownBlock ∧ some k_ ≠ (.slice Ao77 x21_2.length co77 : Value).ownBlock) s_.1 y177) ∧ (Kd.R (Kd.int .i64) 3 w' w.heap.size (fun k_ => some k_ ≠ (s_.1 : Value).ownBlock ∧ some k_ ≠ (s_.2.2 : Value).ownBlock ∧ some k_ ≠ (.slice Ao77 x21_2.length co77 : Value).ownBlock) s_.2.1 y180) ∧ (Kd.R (Kd.int .i64) 3 w' w.heap.size (fun k_ => some k_ ≠ (s_.1 : Value).ownBlock ∧ some k_ ≠ (s_.2.1 : Value).ownBlock ∧ some k_ ≠ (.slice Ao77 x21_2.length co77 : Value).ownBlock) s_.2.2 y183) ∧ (Kd.R (Kd.int .i64) 3 w' w.heap.size (fun k_ => some k_ ≠ (s_.1 : Value).ownBlock ∧ some k_ ≠ (s_.2.1 : Value).ownBlock ∧ some k_ ≠ (s_.2.2 : Value).ownBlock) (.slice Ao77 x21_2.length co77) x21_2) ∧ (Kd.R Kd.bool 4 w' w.heap.size (fun _ => True) v154 t153) ∧ (w'.heap[gb149]? = some (.cells #[.int .i64 a0_0, .int .i64 a0_1, .int .i64 a0_2] 25 (0, 0))) ∧ (w'.heap[gb150]? = some (.cells #[.int .i64 a2_0, .string a2_1, .int .i64 a2_2, .int .i64 a2_3, .int .i64 a2_4, .int .i64 a2_5, .int .i64 a2_6] 45 (0, 0))) ∧ (w'.heap[gb173]? = some (.cells #[.int .i64 t165, .string t166, .int .i64 t167, .int .i64 t168, .int .i64 t169, .int .i64 t170, .int .i64 t171] 45 (0, 0))) ∧ (w'.heap[gb176]? = some (.cells #[.bool ((rd_T34 l1 x125_2).f0), .int .i64 ((rd_T34 l1 x125_2).f1), .int .i64 ((rd_T34 l1 x125_2).f2)] 34 (0, 0))) ∧ (Below w.heap.size w w')) ?_ ?_
         rotate_left
         ·
          intro hCont
          refine two_ (i := 3) (j := 8) (Ni := some 132) (Nj := some 137) #[true, true, true, true, false, true, true, true, false, false, false, false] #[true, true, true, false, false, true, true, true, true, false, false, false] rfl rfl rfl rfl (two_of HT_.out (by kernel_rfl)) (by decide) (by decide) (fun K hK => ?_) (fun K hK => ?_)
          ·
           skip
           refine Kd.R_lit_step (Kd.int .i64) _ 3 ?hg (N := 132) ?hd (xs := ([(rd_T34 l1 x125_2).f1] : List Int)) (inner := [.int .i64 ((rd_T34 l1 x125_2).f1)]) (ok := fun _ => True) (okp := fun _ => True) ?hr ?hp (fun _ hk => hk) trivial (Below.refl _ _) (Nat.le_refl _) (by simp) ?_; (case hd => rfl); (case hg => rfl); (case hr => first | (go_simp; done) | (go_simp; rfl)); (case hp => exact (Reps.one (show Kd.M (Kd.int .i64) _ _ _ ((rd_T34 l1 x125_2).f1) [.int .i64 ((rd_T34 l1 x125_2).f1)] from rfl) (Reps.none _ _)))
           intro v178 w80 ho81 hb hg_ hnew_
           clear hg_ hnew_
           (first | rw [← Ny177.out] at ho81 | (simp only [Int.reduceToNat] at ho81; rw [← Ny177.out] at ho81))
           have n0_ := Aside0.mk (Kd.R_below (by (with_reducible repeat (first | apply qk | apply qj | apply ql)); exact HO_8.out) hb)
           have n1_ := Aside0.mk (Kd.R_elder' (by (with_reducible repeat (first | apply qk | apply qj | apply ql)); exact HO_20.out) (Kd.R_base ho81) hb)
           have n2_ := Aside0.mk (Kd.R_elder' (by (with_reducible repeat (first | apply qk | apply qj | apply ql)); exact HO_21.out) (Kd.R_base ho81) hb)
           have n3_ := Aside0.mk (Kd.R_lower (Kd.R_new' (Kd.R_new' ho81 (Kd.R_lt (by (with_reducible repeat (first | apply qk | apply qj | apply ql)); exact HO_20.out))) (Kd.R_lt (by (with_reducible repeat (first | apply qk | apply qj | apply ql)); exact HO_21.out))) (below_size (by repeat (first | (with_reducible first | exact HB.out | apply qg | apply qe | apply qf | refine qd ?_ Ga.out | refine qd ?_ Gb.out | refine qd ?_ Gc.out | refine qd ?_ GE176.out) | exact HB.out))))
           have n4_ := Aside0.mk (blk_below (g := gb149) (o := .cells #[.int .i64 a0_0, .int .i64 a0_1, .int .i64 a0_2] 25 (0, 0)) (by (with_reducible repeat (first | refine qa ?_ _ | refine qb ?_ | refine qc ?_ _)); exact Ka.out) hb)
           have n5_ := Aside0.mk (blk_below (g := gb150) (o := .cells #[.int .i64 a2_0, .string a2_1, .int .i64 a2_2, .int .i64 a2_3, .int .i64 a2_4, .int .i64 a2_5, .int .i64 a2_6] 45 (0, 0)) (by (with_reducible repeat (first | refine qa ?_ _ | refine qb ?_ | refine qc ?_ _)); exact Kb.out) hb)
           have n6_ := Aside0.mk (blk_below (g := gb173) (o := .cells #[.int .i64 t165, .string t166, .int .i64 t167, .int .i64 t168, .int .i64 t169, .int .i64 t170, .int .i64 t171] 45 (0, 0)) (by (with_reducible repeat (first | refine qa ?_ _ | refine qb ?_ | refine qc ?_ _)); exact Kc.out) hb)
           have n7_ := Aside0.mk (blk_below (g := gb176) (o := .cells #[.bool ((rd_T34 l1 x125_2).f0), .int .i64 ((rd_T34 l1 x125_2).f1), .int .i64 ((rd_T34 l1 x125_2).f2)] 34 (0, 0)) (by (with_reducible repeat (first | refine qa ?_ _ | refine qb ?_ | refine qc ?_ _)); exact BK176.out) hb)
           have n8_ := Aside0.mk (below_step (by repeat (first | (with_reducible first | exact HB.out | apply qg | apply qe | apply qf | refine qd ?_ Ga.out | refine qd ?_ Gb.out | refine qd ?_ Gc.out | refine qd ?_ GE176.out) | exact HB.out)) hb)
           clear HO_8
           clear HO_20
           clear HO_21
           clear Ka
           clear Kb
           clear Kc
           clear BK176
           clear HB
           have HO_8 := n0_
           have HO_20 := n1_
           have HO_21 := n2_
           have HO179 := n3_
           have Ka := n4_
           have Kb := n5_
           have Kc := n6_
           have BK176 := n7_
           have HB := n8_
           clear n0_ n1_ n2_ n3_ n4_ n5_ n6_ n7_ n8_
           clear hb ho81
           obtain ⟨Ao83, co83, eo83⟩ := Kd.R_slice HO179.out
           (first | subst eo83 | (injection eo83 with f1_ f2_ f3_; have f4_ := f1_.symm; have f5_ := f3_.symm; clear f1_ f2_ f3_; subst f4_; subst f5_))
           refine hK.out _ _ ⟨(qi BK176.out 0).trans rfl, (qi BK176.out 1).trans rfl, (qi BK176.out 2).trans rfl⟩ (fun hHeld => ?_)
           clear hK K
           refine norm_ (a' := ?_) ?_ ?_
           rotate_left
           ·
            show Act.put _ (some 132) _ = _
            simp only [Act.put, List.setIfInBounds_toArray, List.set_cons_zero, List.set_cons_succ, i64_w, i32_w]
            rfl
           refine two_ (i := 4) (j := 8) (Ni := some 133) (Nj := some 137) #[true, true, true, true, true, true, true, true, false, false, false, false] #[true, true, true, true, false, true, true, true, true, false, false, false] rfl rfl rfl rfl (two_of HT_.out (by kernel_rfl)) (by decide) (by decide) (fun K hK => ?_) (fun K hK => ?_)
           ·
            skip
            refine Kd.R_append_rows_step (Kd.int .i64) (w0 := w) w.heap.size (by rfl) (.tmp 129) (.tmp 132) 22 3 (.int .i64 0) 8 rfl Try.underlying22 info3 rfl (by decide) (by omega) (.slice Ao76 x20_2.length co76) x20_2 y177 _ _ _ (fun k_ => some k_ ≠ (.slice Ao77 x21_2.length co77 : Value).ownBlock ∧ some k_ ≠ (.slice Ao83 y177.length co83 : Value).ownBlock) (fun _ => False) rfl rfl ?aO ?aR (fun _ _ h => h) (fun _ h => h.elim) ?aF ?aB ?aS ?aL ?_
            (case aR => repeat (first | exact (Kd.R_reads' HO179.out).2.2 | (with_reducible refine Kd.C_alloc ?_ _) | (with_reducible refine Kd.C_drewN ?_ _) | (with_reducible refine Kd.C_drew ?_)))
            (case aB => exact (by repeat (first | (with_reducible first | exact HB.out | apply qg | apply qe | apply qf | refine qd ?_ Ga.out | refine qd ?_ Gb.out | refine qd ?_ Gc.out | refine qd ?_ GE176.out) | exact HB.out)))
            (case aF => exact (fun k_ hk => ⟨Kd.fresh' (Kd.R_lt (by (with_reducible repeat (first | apply qk | apply qj | apply ql)); exact HO_21.out)) k_ hk, Kd.fresh' (Kd.R_lt (by (with_reducible repeat (first | apply qk | apply qj | apply ql)); exact HO179.out)) k_ hk⟩))
            (case aO => exact (by (with_reducible repeat (first | apply qk | apply qj | apply ql)); exact HO_20.out))
            (case aS => exact (below_size (by repeat (first | (with_reducible first | exact HB.out | apply qg | apply qe | apply qf | refine qd ?_ Ga.out | refine qd ?_ Gb.out | refine qd ?_ Gc.out | refine qd ?_ GE176.out) | exact HB.out))))
            (case aL => have := LMc69.out; omega)
            intro v181 w82 ho hb hg hat
            rw [← Ny180.out] at ho
            have n0_ := Aside0.mk (Kd.R_over' (by (with_reducible repeat (first | apply qk | apply qj | apply ql)); exact HO_8.out) (Kd.R_typed (by (with_reducible repeat (first | apply qk | apply qj | apply ql)); exact HO_20.out)) (by decide) hg)
            have n1_ := Aside0.mk (Kd.R_after (ok := (fun k_ => some k_ ≠ (.slice Ao83 y177.length co83 : Value).ownBlock)) (by (with_reducible repeat (first | apply qk | apply qj | apply ql)); exact Kd.R_mono HO_21.out (fun _ hk => ⟨hk.2, hk.1⟩)) hg hat)
            have n2_ := Aside0.mk (blk_grown (g := gb149) (o := .cells #[.int .i64 a0_0, .int .i64 a0_1, .int .i64 a0_2] 25 (0, 0)) (by (with_reducible repeat (first | refine qa ?_ _ | refine qb ?_ | refine qc ?_ _)); exact Ka.out) hg (Kd.R_ne HO_20.out Ka.out (by decide)))
            have n3_ := Aside0.mk (blk_grown (g := gb150) (o := .cells #[.int .i64 a2_0, .string a2_1, .int .i64 a2_2, .int .i64 a2_3, .int .i64 a2_4, .int .i64 a2_5, .int .i64 a2_6] 45 (0, 0)) (by (with_reducible repeat (first | refine qa ?_ _ | refine qb ?_ | refine qc ?_ _)); exact Kb.out) hg (Kd.R_ne HO_20.out Kb.out (by decide)))
            have n4_ := Aside0.mk (blk_grown (g := gb173) (o := .cells #[.int .i64 t165, .string t166, .int .i64 t167, .int .i64 t168, .int .i64 t169, .int .i64 t170, .int .i64 t171] 45 (0, 0)) (by (with_reducible repeat (first | refine qa ?_ _ | refine qb ?_ | refine qc ?_ _)); exact Kc.out) hg (Kd.R_ne HO_20.out Kc.out (by decide)))
            have n5_ := Aside0.mk (blk_grown (g := gb176) (o := .cells #[.bool ((rd_T34 l1 x125_2).f0), .int .i64 ((rd_T34 l1 x125_2).f1), .int .i64 ((rd_T34 l1 x125_2).f2)] 34 (0, 0)) (by (with_reducible repeat (first | refine qa ?_ _ | refine qb ?_ | refine qc ?_ _)); exact BK176.out) hg (Kd.R_ne HO_20.out BK176.out (by decide)))
            have n6_ := Aside0.mk (Kd.R_after (ok := (fun k_ => some k_ ≠ (.slice Ao77 x21_2.length co77 : Value).ownBlock)) (by (with_reducible repeat (first | apply qk | apply qj | apply ql)); exact Kd.R_mono HO179.out (fun _ hk => ⟨hk.2, hk.1.2⟩)) hg hat)
            have n7_ := Aside0.mk (hb)
            have n8_ := Aside0.mk (ho)
            clear HO_8
            clear HO_21
            clear Ka
            clear Kb
            clear Kc
            clear BK176
            clear HO179
            clear HB
            clear HO_20
            have HO_8 := n0_
            have HO_21 := n1_
            have Ka := n2_
            have Kb := n3_
            have Kc := n4_
            have BK176 := n5_
            have HO179 := n6_
            have HB := n7_
            have HO182 := n8_
            clear n0_ n1_ n2_ n3_ n4_ n5_ n6_ n7_ n8_
            clear ho hb hg hat
            refine hK.out _ _ ⟨(qi BK176.out 0).trans rfl, (qi BK176.out 1).trans rfl, (qi BK176.out 2).trans rfl⟩ (fun hHeld => ?_)
            clear hK K
            refine norm_ (a' := ?_) ?_ ?_
            rotate_left
            ·
             show Act.put _ (some 133) _ = _
             simp only [Act.put, List.setIfInBounds_toArray, List.set_cons_zero, List.set_cons_succ, i64_w, i32_w]
             rfl
            refine one_ (i := 8) (N := some 137) #[true, true, true, true, true, true, true, true, true, false, false, false] rfl rfl (one_of HT_.out (by kernel_rfl)) (by decide) (fun K hK => ?_)
            refine Kd.R_lit_step (Kd.int .i64) _ 3 ?hg (N := 137) ?hd (xs := ([(rd_T34 l1 x125_2).f2] : List Int)) (inner := [.int .i64 ((rd_T34 l1 x125_2).f2)]) (ok := fun _ => True) (okp := fun _ => True) ?hr ?hp (fun _ hk => hk) trivial (Below.refl _ _) (Nat.le_refl _) (by simp) ?_; (case hd => rfl); (case hg => rfl); (case hr => first | (go_simp; done) | (go_simp; rfl)); (case hp => exact (Reps.one (show Kd.M (Kd.int .i64) _ _ _ ((rd_T34 l1 x125_2).f2) [.int .i64 ((rd_T34 l1 x125_2).f2)] from rfl) (Reps.none _ _)))
            intro v184 w84 ho85 hb hg_ hnew_
            clear hg_ hnew_
            (first | rw [← Ny183.out] at ho85 | (simp only [Int.reduceToNat] at ho85; rw [← Ny183.out] at ho85))
            have n0_ := Aside0.mk (Kd.R_below (by (with_reducible repeat (first | apply qk | apply qj | apply ql)); exact HO_8.out) hb)
            have n1_ := Aside0.mk (Kd.R_elder' (by (with_reducible repeat (first | apply qk | apply qj | apply ql)); exact HO_21.out) (Kd.R_base ho85) hb)
            have n2_ := Aside0.mk (Kd.R_elder' (by (with_reducible repeat (first | apply qk | apply qj | apply ql)); exact HO179.out) (Kd.R_base ho85) hb)
            have n3_ := Aside0.mk (Kd.R_elder' (by (with_reducible repeat (first | apply qk | apply qj | apply ql)); exact HO182.out) (Kd.R_base ho85) hb)
            have n4_ := Aside0.mk (Kd.R_lower (Kd.R_new' (Kd.R_new' (Kd.R_new' ho85 (Kd.R_lt (by (with_reducible repeat (first | apply qk | apply qj | apply ql)); exact HO_21.out))) (Kd.R_lt (by (with_reducible repeat (first | apply qk | apply qj | apply ql)); exact HO179.out))) (Kd.R_lt (by (with_reducible repeat (first | apply qk | apply qj | apply ql)); exact HO182.out))) (below_size (by repeat (first | (with_reducible first | exact HB.out | apply qg | apply qe | apply qf | refine qd ?_ Ga.out | refine qd ?_ Gb.out | refine qd ?_ Gc.out | refine qd ?_ GE176.out) | exact HB.out))))
            have n5_ := Aside0.mk (blk_below (g := gb149) (o := .cells #[.int .i64 a0_0, .int .i64 a0_1, .int .i64 a0_2] 25 (0, 0)) (by (with_reducible repeat (first | refine qa ?_ _ | refine qb ?_ | refine qc ?_ _)); exact Ka.out) hb)
            have n6_ := Aside0.mk (blk_below (g := gb150) (o := .cells #[.int .i64 a2_0, .string a2_1, .int .i64 a2_2, .int .i64 a2_3, .int .i64 a2_4, .int .i64 a2_5, .int .i64 a2_6] 45 (0, 0)) (by (with_reducible repeat (first | refine qa ?_ _ | refine qb ?_ | refine qc ?_ _)); exact Kb.out) hb)
            have n7_ := Aside0.mk (blk_below (g := gb173) (o := .cells #[.int .i64 t165, .string t166, .int .i64 t167, .int .i64 t168, .int .i64 t169, .int .i64 t170, .int .i64 t171] 45 (0, 0)) (by (with_reducible repeat (first | refine qa ?_ _ | refine qb ?_ | refine qc ?_ _)); exact Kc.out) hb)
            have n8_ := Aside0.mk (blk_below (g := gb176) (o := .cells #[.bool ((rd_T34 l1 x125_2).f0), .int .i64 ((rd_T34 l1 x125_2).f1), .int .i64 ((rd_T34 l1 x125_2).f2)] 34 (0, 0)) (by (with_reducible repeat (first | refine qa ?_ _ | refine qb ?_ | refine qc ?_ _)); exact BK176.out) hb)
            have n9_ := Aside0.mk (below_step (by repeat (first | (with_reducible first | exact HB.out | apply qg | apply qe | apply qf | refine qd ?_ Ga.out | refine qd ?_ Gb.out | refine qd ?_ Gc.out | refine qd ?_ GE176.out) | exact HB.out)) hb)
            clear HO_8
            clear HO_21
            clear HO179
            clear HO182
            clear Ka
            clear Kb
            clear Kc
            clear BK176
            clear HB
            have HO_8 := n0_
            have HO_21 := n1_
            have HO179 := n2_
            have HO182 := n3_
            have HO185 := n4_
            have Ka := n5_
            have Kb := n6_
            have Kc := n7_
            have BK176 := n8_
            have HB := n9_
            clear n0_ n1_ n2_ n3_ n4_ n5_ n6_ n7_ n8_ n9_
            clear hb ho85
            refine hK.out _ _ ⟨(qi BK176.out 0).trans rfl, (qi BK176.out 1).trans rfl, (qi BK176.out 2).trans rfl⟩ (fun hHeld => ?_)
            clear hK K
            refine norm_ (a' := ?_) ?_ ?_
            rotate_left
            ·
             show Act.put _ (some 137) _ = _
             simp only [Act.put, List.setIfInBounds_toArray, List.set_cons_zero, List.set_cons_succ, i64_w, i32_w]
             rfl
            exact norm_ (by simp only [putAll, Act.put, List.setIfInBounds_toArray, List.set_cons_zero, List.set_cons_succ]) (hCont (.slice Ao83 y177.length co83, v181, v184) _ ⟨hHeld, (by (with_reducible repeat (first | apply qk | apply qj | apply ql)); exact Kd.R_mono HO179.out (fun _ hk => ⟨hk.1.2, ⟨hk.2, hk.1.1⟩⟩)), (by (with_reducible repeat (first | apply qk | apply qj | apply ql)); exact Kd.R_mono HO182.out (fun _ hk => ⟨hk.1.2, ⟨hk.2, hk.1.1⟩⟩)), (by (with_reducible repeat (first | apply qk | apply qj | apply ql)); exact Kd.R_mono HO185.out (fun _ hk => ⟨hk.1.2, ⟨hk.2, hk.1.1.2⟩⟩)), (by (with_reducible repeat (first | apply qk | apply qj | apply ql)); exact Kd.R_mono HO_21.out (fun _ hk => ⟨hk.1.1, ⟨hk.1.2, hk.2⟩⟩)), (by (with_reducible repeat (first | apply qk | apply qj | apply ql)); exact HO_8.out), (by (with_reducible repeat (first | refine qa ?_ _ | refine qb ?_ | refine qc ?_ _)); exact Ka.out), (by (with_reducible repeat (first | refine qa ?_ _ | refine qb ?_ | refine qc ?_ _)); exact Kb.out), (by (with_reducible repeat (first | refine qa ?_ _ | refine qb ?_ | refine qc ?_ _)); exact Kc.out), (by (with_reducible repeat (first | refine qa ?_ _ | refine qb ?_ | refine qc ?_ _)); exact BK176.out), (by repeat (first | (with_reducible first | exact HB.out | apply qg | apply qe | apply qf | refine qd ?_ Ga.out | refine qd ?_ Gb.out | refine qd ?_ Gc.out | refine qd ?_ GE176.out) | exact HB.out))⟩)
           ·
            skip
            refine Kd.R_lit_step (Kd.int .i64) _ 3 ?hg (N := 137) ?hd (xs := ([(rd_T34 l1 x125_2).f2] : List Int)) (inner := [.int .i64 ((rd_T34 l1 x125_2).f2)]) (ok := fun _ => True) (okp := fun _ => True) ?hr ?hp (fun _ hk => hk) trivial (Below.refl _ _) (Nat.le_refl _) (by simp) ?_; (case hd => rfl); (case hg => rfl); (case hr => first | (go_simp; done) | (go_simp; rfl)); (case hp => exact (Reps.one (show Kd.M (Kd.int .i64) _ _ _ ((rd_T34 l1 x125_2).f2) [.int .i64 ((rd_T34 l1 x125_2).f2)] from rfl) (Reps.none _ _)))
            intro v184 w82 ho83 hb hg_ hnew_
            clear hg_ hnew_
            (first | rw [← Ny183.out] at ho83 | (simp only [Int.reduceToNat] at ho83; rw [← Ny183.out] at ho83))
            have n0_ := Aside0.mk (Kd.R_below (by (with_reducible repeat (first | apply qk | apply qj | apply ql)); exact HO_8.out) hb)
            have n1_ := Aside0.mk (Kd.R_elder' (by (with_reducible repeat (first | apply qk | apply qj | apply ql)); exact HO_20.out) (Kd.R_base ho83) hb)
            have n2_ := Aside0.mk (Kd.R_elder' (by (with_reducible repeat (first | apply qk | apply qj | apply ql)); exact HO_21.out) (Kd.R_base ho83) hb)
            have n3_ := Aside0.mk (Kd.R_elder' (by (with_reducible repeat (first | apply qk | apply qj | apply ql)); exact HO179.out) (Kd.R_base ho83) hb)
            have n4_ := Aside0.mk (Kd.R_lower (Kd.R_new' (Kd.R_new' (Kd.R_new' ho83 (Kd.R_lt (by (with_reducible repeat (first | apply qk | apply qj | apply ql)); exact HO_20.out))) (Kd.R_lt (by (with_reducible repeat (first | apply qk | apply qj | apply ql)); exact HO_21.out))) (Kd.R_lt (by (with_reducible repeat (first | apply qk | apply qj | apply ql)); exact HO179.out))) (below_size (by repeat (first | (with_reducible first | exact HB.out | apply qg | apply qe | apply qf | refine qd ?_ Ga.out | refine qd ?_ Gb.out | refine qd ?_ Gc.out | refine qd ?_ GE176.out) | exact HB.out))))
            have n5_ := Aside0.mk (blk_below (g := gb149) (o := .cells #[.int .i64 a0_0, .int .i64 a0_1, .int .i64 a0_2] 25 (0, 0)) (by (with_reducible repeat (first | refine qa ?_ _ | refine qb ?_ | refine qc ?_ _)); exact Ka.out) hb)
            have n6_ := Aside0.mk (blk_below (g := gb150) (o := .cells #[.int .i64 a2_0, .string a2_1, .int .i64 a2_2, .int .i64 a2_3, .int .i64 a2_4, .int .i64 a2_5, .int .i64 a2_6] 45 (0, 0)) (by (with_reducible repeat (first | refine qa ?_ _ | refine qb ?_ | refine qc ?_ _)); exact Kb.out) hb)
            have n7_ := Aside0.mk (blk_below (g := gb173) (o := .cells #[.int .i64 t165, .string t166, .int .i64 t167, .int .i64 t168, .int .i64 t169, .int .i64 t170, .int .i64 t171] 45 (0, 0)) (by (with_reducible repeat (first | refine qa ?_ _ | refine qb ?_ | refine qc ?_ _)); exact Kc.out) hb)
            have n8_ := Aside0.mk (blk_below (g := gb176) (o := .cells #[.bool ((rd_T34 l1 x125_2).f0), .int .i64 ((rd_T34 l1 x125_2).f1), .int .i64 ((rd_T34 l1 x125_2).f2)] 34 (0, 0)) (by (with_reducible repeat (first | refine qa ?_ _ | refine qb ?_ | refine qc ?_ _)); exact BK176.out) hb)
            have n9_ := Aside0.mk (below_step (by repeat (first | (with_reducible first | exact HB.out | apply qg | apply qe | apply qf | refine qd ?_ Ga.out | refine qd ?_ Gb.out | refine qd ?_ Gc.out | refine qd ?_ GE176.out) | exact HB.out)) hb)
            clear HO_8
            clear HO_20
            clear HO_21
            clear HO179
            clear Ka
            clear Kb
            clear Kc
            clear BK176
            clear HB
            have HO_8 := n0_
            have HO_20 := n1_
            have HO_21 := n2_
            have HO179 := n3_
            have HO185 := n4_
            have Ka := n5_
            have Kb := n6_
            have Kc := n7_
            have BK176 := n8_
            have HB := n9_
            clear n0_ n1_ n2_ n3_ n4_ n5_ n6_ n7_ n8_ n9_
            clear hb ho83
            obtain ⟨Ao85, co85, eo85⟩ := Kd.R_slice HO179.out
            (first | subst eo85 | (injection eo85 with f1_ f2_ f3_; have f4_ := f1_.symm; have f5_ := f3_.symm; clear f1_ f2_ f3_; subst f4_; subst f5_))
            refine hK.out _ _ ⟨(qi BK176.out 0).trans rfl, (qi BK176.out 1).trans rfl, (qi BK176.out 2).trans rfl⟩ (fun hHeld => ?_)
            clear hK K
            refine norm_ (a' := ?_) ?_ ?_
            rotate_left
            ·
             show Act.put _ (some 137) _ = _
             simp only [Act.put, List.setIfInBounds_toArray, List.set_cons_zero, List.set_cons_succ, i64_w, i32_w]
             rfl
            refine one_ (i := 4) (N := some 133) #[true, true, true, true, true, true, true, true, true, false, false, false] rfl rfl (one_of HT_.out (by kernel_rfl)) (by decide) (fun K hK => ?_)
            refine Kd.R_append_rows_step (Kd.int .i64) (w0 := w) w.heap.size (by rfl) (.tmp 129) (.tmp 132) 22 3 (.int .i64 0) 8 rfl Try.underlying22 info3 rfl (by decide) (by omega) (.slice Ao76 x20_2.length co76) x20_2 y177 _ _ _ (fun k_ => some k_ ≠ (.slice Ao77 x21_2.length co77 : Value).ownBlock ∧ some k_ ≠ (.slice Ao85 y177.length co85 : Value).ownBlock ∧ some k_ ≠ (v184 : Value).ownBlock) (fun _ => False) rfl rfl ?aO ?aR (fun _ _ h => h) (fun _ h => h.elim) ?aF ?aB ?aS ?aL ?_
            (case aR => repeat (first | exact (Kd.R_reads' HO179.out).2.2 | (with_reducible refine Kd.C_alloc ?_ _) | (with_reducible refine Kd.C_drewN ?_ _) | (with_reducible refine Kd.C_drew ?_)))
            (case aB => exact (by repeat (first | (with_reducible first | exact HB.out | apply qg | apply qe | apply qf | refine qd ?_ Ga.out | refine qd ?_ Gb.out | refine qd ?_ Gc.out | refine qd ?_ GE176.out) | exact HB.out)))
            (case aF => exact (fun k_ hk => ⟨Kd.fresh' (Kd.R_lt (by (with_reducible repeat (first | apply qk | apply qj | apply ql)); exact HO_21.out)) k_ hk, Kd.fresh' (Kd.R_lt (by (with_reducible repeat (first | apply qk | apply qj | apply ql)); exact HO179.out)) k_ hk, Kd.fresh' (Kd.R_lt (by (with_reducible repeat (first | apply qk | apply qj | apply ql)); exact HO185.out)) k_ hk⟩))
            (case aO => exact (by (with_reducible repeat (first | apply qk | apply qj | apply ql)); exact Kd.R_mono HO_20.out (fun _ hk => ⟨hk.1.1, ⟨hk.1.2, hk.2⟩⟩)))
            (case aS => exact (below_size (by repeat (first | (with_reducible first | exact HB.out | apply qg | apply qe | apply qf | refine qd ?_ Ga.out | refine qd ?_ Gb.out | refine qd ?_ Gc.out | refine qd ?_ GE176.out) | exact HB.out))))
            (case aL => have := LMc69.out; omega)
            intro v181 w84 ho hb hg hat
            rw [← Ny180.out] at ho
            have n0_ := Aside0.mk (Kd.R_over' (by (with_reducible repeat (first | apply qk | apply qj | apply ql)); exact HO_8.out) (Kd.R_typed (by (with_reducible repeat (first | apply qk | apply qj | apply ql)); exact HO_20.out)) (by decide) hg)
            have n1_ := Aside0.mk (Kd.R_after (ok := (fun k_ => some k_ ≠ (.slice Ao85 y177.length co85 : Value).ownBlock ∧ some k_ ≠ (v184 : Value).ownBlock)) (by (with_reducible repeat (first | apply qk | apply qj | apply ql)); exact Kd.R_mono HO_21.out (fun _ hk => ⟨⟨hk.1.2, hk.2⟩, hk.1.1⟩)) hg hat)
            have n2_ := Aside0.mk (blk_grown (g := gb149) (o := .cells #[.int .i64 a0_0, .int .i64 a0_1, .int .i64 a0_2] 25 (0, 0)) (by (with_reducible repeat (first | refine qa ?_ _ | refine qb ?_ | refine qc ?_ _)); exact Ka.out) hg (Kd.R_ne HO_20.out Ka.out (by decide)))
            have n3_ := Aside0.mk (blk_grown (g := gb150) (o := .cells #[.int .i64 a2_0, .string a2_1, .int .i64 a2_2, .int .i64 a2_3, .int .i64 a2_4, .int .i64 a2_5, .int .i64 a2_6] 45 (0, 0)) (by (with_reducible repeat (first | refine qa ?_ _ | refine qb ?_ | refine qc ?_ _)); exact Kb.out) hg (Kd.R_ne HO_20.out Kb.out (by decide)))
            have n4_ := Aside0.mk (blk_grown (g := gb173) (o := .cells #[.int .i64 t165, .string t166, .int .i64 t167, .int .i64 t168, .int .i64 t169, .int .i64 t170, .int .i64 t171] 45 (0, 0)) (by (with_reducible repeat (first | refine qa ?_ _ | refine qb ?_ | refine qc ?_ _)); exact Kc.out) hg (Kd.R_ne HO_20.out Kc.out (by decide)))
            have n5_ := Aside0.mk (blk_grown (g := gb176) (o := .cells #[.bool ((rd_T34 l1 x125_2).f0), .int .i64 ((rd_T34 l1 x125_2).f1), .int .i64 ((rd_T34 l1 x125_2).f2)] 34 (0, 0)) (by (with_reducible repeat (first | refine qa ?_ _ | refine qb ?_ | refine qc ?_ _)); exact BK176.out) hg (Kd.R_ne HO_20.out BK176.out (by decide)))
            have n6_ := Aside0.mk (Kd.R_after (ok := (fun k_ => some k_ ≠ (.slice Ao77 x21_2.length co77 : Value).ownBlock ∧ some k_ ≠ (v184 : Value).ownBlock)) (by (with_reducible repeat (first | apply qk | apply qj | apply ql)); exact Kd.R_mono HO179.out (fun _ hk => ⟨⟨hk.1.2, hk.2⟩, hk.1.1.2⟩)) hg hat)
            have n7_ := Aside0.mk (Kd.R_after (ok := (fun k_ => some k_ ≠ (.slice Ao77 x21_2.length co77 : Value).ownBlock ∧ some k_ ≠ (.slice Ao85 y177.length co85 : Value).ownBlock)) (by (with_reducible repeat (first | apply qk | apply qj | apply ql)); exact Kd.R_mono HO185.out (fun _ hk => ⟨⟨hk.1.2, hk.2⟩, hk.1.1.2⟩)) hg hat)
            have n8_ := Aside0.mk (hb)
            have n9_ := Aside0.mk (ho)
            clear HO_8
            clear HO_21
            clear Ka
            clear Kb
            clear Kc
            clear BK176
            clear HO179
            clear HO185
            clear HB
            clear HO_20
            have HO_8 := n0_
            have HO_21 := n1_
            have Ka := n2_
            have Kb := n3_
            have Kc := n4_
            have BK176 := n5_
            have HO179 := n6_
            have HO185 := n7_
            have HB := n8_
            have HO182 := n9_
            clear n0_ n1_ n2_ n3_ n4_ n5_ n6_ n7_ n8_ n9_
            clear ho hb hg hat
            refine hK.out _ _ ⟨(qi BK176.out 0).trans rfl, (qi BK176.out 1).trans rfl, (qi BK176.out 2).trans rfl⟩ (fun hHeld => ?_)
            clear hK K
            refine norm_ (a' := ?_) ?_ ?_
            rotate_left
            ·
             show Act.put _ (some 133) _ = _
             simp only [Act.put, List.setIfInBounds_toArray, List.set_cons_zero, List.set_cons_succ, i64_w, i32_w]
             rfl
            exact norm_ (by simp only [putAll, Act.put, List.setIfInBounds_toArray, List.set_cons_zero, List.set_cons_succ]) (hCont (.slice Ao85 y177.length co85, v181, v184) _ ⟨hHeld, (by (with_reducible repeat (first | apply qk | apply qj | apply ql)); exact Kd.R_mono HO179.out (fun _ hk => ⟨hk.2, ⟨hk.1.2, hk.1.1⟩⟩)), (by (with_reducible repeat (first | apply qk | apply qj | apply ql)); exact Kd.R_mono HO182.out (fun _ hk => ⟨hk.2.1, ⟨hk.2.2, hk.1⟩⟩)), (by (with_reducible repeat (first | apply qk | apply qj | apply ql)); exact Kd.R_mono HO185.out (fun _ hk => ⟨hk.1.2, ⟨hk.2, hk.1.1⟩⟩)), (by (with_reducible repeat (first | apply qk | apply qj | apply ql)); exact Kd.R_mono HO_21.out (fun _ hk => ⟨hk.1.1, ⟨hk.2, hk.1.2⟩⟩)), (by (with_reducible repeat (first | apply qk | apply qj | apply ql)); exact HO_8.out), (by (with_reducible repeat (first | refine qa ?_ _ | refine qb ?_ | refine qc ?_ _)); exact Ka.out), (by (with_reducible repeat (first | refine qa ?_ _ | refine qb ?_ | refine qc ?_ _)); exact Kb.out), (by (with_reducible repeat (first | refine qa ?_ _ | refine qb ?_ | refine qc ?_ _)); exact Kc.out), (by (with_reducible repeat (first | refine qa ?_ _ | refine qb ?_ | refine qc ?_ _)); exact BK176.out), (by repeat (first | (with_reducible first | exact HB.out | apply qg | apply qe | apply qf | refine qd ?_ Ga.out | refine qd ?_ Gb.out | refine qd ?_ Gc.out | refine qd ?_ GE176.out) | exact HB.out))⟩)
          ·
           skip
           refine Kd.R_lit_step (Kd.int .i64) _ 3 ?hg (N := 137) ?hd (xs := ([(rd_T34 l1 x125_2).f2] : List Int)) (inner := [.int .i64 ((rd_T34 l1 x125_2).f2)]) (ok := fun _ => True) (okp := fun _ => True) ?hr ?hp (fun _ hk => hk) trivial (Below.refl _ _) (Nat.le_refl _) (by simp) ?_; (case hd => rfl); (case hg => rfl); (case hr => first | (go_simp; done) | (go_simp; rfl)); (case hp => exact (Reps.one (show Kd.M (Kd.int .i64) _ _ _ ((rd_T34 l1 x125_2).f2) [.int .i64 ((rd_T34 l1 x125_2).f2)] from rfl) (Reps.none _ _)))
           intro v184 w80 ho81 hb hg_ hnew_
           clear hg_ hnew_
           (first | rw [← Ny183.out] at ho81 | (simp only [Int.reduceToNat] at ho81; rw [← Ny183.out] at ho81))
           have n0_ := Aside0.mk (Kd.R_below (by (with_reducible repeat (first | apply qk | apply qj | apply ql)); exact HO_8.out) hb)
           have n1_ := Aside0.mk (Kd.R_elder' (by (with_reducible repeat (first | apply qk | apply qj | apply ql)); exact HO_20.out) (Kd.R_base ho81) hb)
           have n2_ := Aside0.mk (Kd.R_elder' (by (with_reducible repeat (first | apply qk | apply qj | apply ql)); exact HO_21.out) (Kd.R_base ho81) hb)
           have n3_ := Aside0.mk (Kd.R_lower (Kd.R_new' (Kd.R_new' ho81 (Kd.R_lt (by (with_reducible repeat (first | apply qk | apply qj | apply ql)); exact HO_20.out))) (Kd.R_lt (by (with_reducible repeat (first | apply qk | apply qj | apply ql)); exact HO_21.out))) (below_size (by repeat (first | (with_reducible first | exact HB.out | apply qg | apply qe | apply qf | refine qd ?_ Ga.out | refine qd ?_ Gb.out | refine qd ?_ Gc.out | refine qd ?_ GE176.out) | exact HB.out))))
           have n4_ := Aside0.mk (blk_below (g := gb149) (o := .cells #[.int .i64 a0_0, .int .i64 a0_1, .int .i64 a0_2] 25 (0, 0)) (by (with_reducible repeat (first | refine qa ?_ _ | refine qb ?_ | refine qc ?_ _)); exact Ka.out) hb)
           have n5_ := Aside0.mk (blk_below (g := gb150) (o := .cells #[.int .i64 a2_0, .string a2_1, .int .i64 a2_2, .int .i64 a2_3, .int .i64 a2_4, .int .i64 a2_5, .int .i64 a2_6] 45 (0, 0)) (by (with_reducible repeat (first | refine qa ?_ _ | refine qb ?_ | refine qc ?_ _)); exact Kb.out) hb)
           have n6_ := Aside0.mk (blk_below (g := gb173) (o := .cells #[.int .i64 t165, .string t166, .int .i64 t167, .int .i64 t168, .int .i64 t169, .int .i64 t170, .int .i64 t171] 45 (0, 0)) (by (with_reducible repeat (first | refine qa ?_ _ | refine qb ?_ | refine qc ?_ _)); exact Kc.out) hb)
           have n7_ := Aside0.mk (blk_below (g := gb176) (o := .cells #[.bool ((rd_T34 l1 x125_2).f0), .int .i64 ((rd_T34 l1 x125_2).f1), .int .i64 ((rd_T34 l1 x125_2).f2)] 34 (0, 0)) (by (with_reducible repeat (first | refine qa ?_ _ | refine qb ?_ | refine qc ?_ _)); exact BK176.out) hb)
           have n8_ := Aside0.mk (below_step (by repeat (first | (with_reducible first | exact HB.out | apply qg | apply qe | apply qf | refine qd ?_ Ga.out | refine qd ?_ Gb.out | refine qd ?_ Gc.out | refine qd ?_ GE176.out) | exact HB.out)) hb)
           clear HO_8
           clear HO_20
           clear HO_21
           clear Ka
           clear Kb
           clear Kc
           clear BK176
           clear HB
           have HO_8 := n0_
           have HO_20 := n1_
           have HO_21 := n2_
           have HO185 := n3_
           have Ka := n4_
           have Kb := n5_
           have Kc := n6_
           have BK176 := n7_
           have HB := n8_
           clear n0_ n1_ n2_ n3_ n4_ n5_ n6_ n7_ n8_
           clear hb ho81
           refine hK.out _ _ ⟨(qi BK176.out 0).trans rfl, (qi BK176.out 1).trans rfl, (qi BK176.out 2).trans rfl⟩ (fun hHeld => ?_)
           clear hK K
           refine norm_ (a' := ?_) ?_ ?_
           rotate_left
           ·
            show Act.put _ (some 137) _ = _
            simp only [Act.put, List.setIfInBounds_toArray, List.set_cons_zero, List.set_cons_succ, i64_w, i32_w]
            rfl
           refine one_ (i := 3) (N := some 132) #[true, true, true, true, false, true, true, true, true, false, false, false] rfl rfl (one_of HT_.out (by kernel_rfl)) (by decide) (fun K hK => ?_)
           refine Kd.R_lit_step (Kd.int .i64) _ 3 ?hg (N := 132) ?hd (xs := ([(rd_T34 l1 x125_2).f1] : List Int)) (inner := [.int .i64 ((rd_T34 l1 x125_2).f1)]) (ok := fun _ => True) (okp := fun _ => True) ?hr ?hp (fun _ hk => hk) trivial (Below.refl _ _) (Nat.le_refl _) (by simp) ?_; (case hd => rfl); (case hg => rfl); (case hr => first | (go_simp; done) | (go_simp; rfl)); (case hp => exact (Reps.one (show Kd.M (Kd.int .i64) _ _ _ ((rd_T34 l1 x125_2).f1) [.int .i64 ((rd_T34 l1 x125_2).f1)] from rfl) (Reps.none _ _)))
           intro v178 w82 ho83 hb hg_ hnew_
           clear hg_ hnew_
           (first | rw [← Ny177.out] at ho83 | (simp only [Int.reduceToNat] at ho83; rw [← Ny177.out] at ho83))
           have n0_ := Aside0.mk (Kd.R_below (by (with_reducible repeat (first | apply qk | apply qj | apply ql)); exact HO_8.out) hb)
           have n1_ := Aside0.mk (Kd.R_elder' (by (with_reducible repeat (first | apply qk | apply qj | apply ql)); exact HO_20.out) (Kd.R_base ho83) hb)
           have n2_ := Aside0.mk (Kd.R_elder' (by (with_reducible repeat (first | apply qk | apply qj | apply ql)); exact HO_21.out) (Kd.R_base ho83) hb)
           have n3_ := Aside0.mk (Kd.R_elder' (by (with_reducible repeat (first | apply qk | apply qj | apply ql)); exact HO185.out) (Kd.R_base ho83) hb)
           have n4_ := Aside0.mk (Kd.R_lower (Kd.R_new' (Kd.R_new' (Kd.R_new' ho83 (Kd.R_lt (by (with_reducible repeat (first | apply qk | apply qj | apply ql)); exact HO_20.out))) (Kd.R_lt (by (with_reducible repeat (first | apply qk | apply qj | apply ql)); exact HO_21.out))) (Kd.R_lt (by (with_reducible repeat (first | apply qk | apply qj | apply ql)); exact HO185.out))) (below_size (by repeat (first | (with_reducible first | exact HB.out | apply qg | apply qe | apply qf | refine qd ?_ Ga.out | refine qd ?_ Gb.out | refine qd ?_ Gc.out | refine qd ?_ GE176.out) | exact HB.out))))
           have n5_ := Aside0.mk (blk_below (g := gb149) (o := .cells #[.int .i64 a0_0, .int .i64 a0_1, .int .i64 a0_2] 25 (0, 0)) (by (with_reducible repeat (first | refine qa ?_ _ | refine qb ?_ | refine qc ?_ _)); exact Ka.out) hb)
           have n6_ := Aside0.mk (blk_below (g := gb150) (o := .cells #[.int .i64 a2_0, .string a2_1, .int .i64 a2_2, .int .i64 a2_3, .int .i64 a2_4, .int .i64 a2_5, .int .i64 a2_6] 45 (0, 0)) (by (with_reducible repeat (first | refine qa ?_ _ | refine qb ?_ | refine qc ?_ _)); exact Kb.out) hb)
           have n7_ := Aside0.mk (blk_below (g := gb173) (o := .cells #[.int .i64 t165, .string t166, .int .i64 t167, .int .i64 t168, .int .i64 t169, .int .i64 t170, .int .i64 t171] 45 (0, 0)) (by (with_reducible repeat (first | refine qa ?_ _ | refine qb ?_ | refine qc ?_ _)); exact Kc.out) hb)
           have n8_ := Aside0.mk (blk_below (g := gb176) (o := .cells #[.bool ((rd_T34 l1 x125_2).f0), .int .i64 ((rd_T34 l1 x125_2).f1), .int .i64 ((rd_T34 l1 x125_2).f2)] 34 (0, 0)) (by (with_reducible repeat (first | refine qa ?_ _ | refine qb ?_ | refine qc ?_ _)); exact BK176.out) hb)
           have n9_ := Aside0.mk (below_step (by repeat (first | (with_reducible first | exact HB.out | apply qg | apply qe | apply qf | refine qd ?_ Ga.out | refine qd ?_ Gb.out | refine qd ?_ Gc.out | refine qd ?_ GE176.out) | exact HB.out)) hb)
           clear HO_8
           clear HO_20
           clear HO_21
           clear HO185
           clear Ka
           clear Kb
           clear Kc
           clear BK176
           clear HB
           have HO_8 := n0_
           have HO_20 := n1_
           have HO_21 := n2_
           have HO185 := n3_
           have HO179 := n4_
           have Ka := n5_
           have Kb := n6_
           have Kc := n7_
           have BK176 := n8_
           have HB := n9_
           clear n0_ n1_ n2_ n3_ n4_ n5_ n6_ n7_ n8_ n9_
           clear hb ho83
           obtain ⟨Ao85, co85, eo85⟩ := Kd.R_slice HO179.out
           (first | subst eo85 | (injection eo85 with f1_ f2_ f3_; have f4_ := f1_.symm; have f5_ := f3_.symm; clear f1_ f2_ f3_; subst f4_; subst f5_))
           refine hK.out _ _ ⟨(qi BK176.out 0).trans rfl, (qi BK176.out 1).trans rfl, (qi BK176.out 2).trans rfl⟩ (fun hHeld => ?_)
           clear hK K
           refine norm_ (a' := ?_) ?_ ?_
           rotate_left
           ·
            show Act.put _ (some 132) _ = _
            simp only [Act.put, List.setIfInBounds_toArray, List.set_cons_zero, List.set_cons_succ, i64_w, i32_w]
            rfl
           refine one_ (i := 4) (N := some 133) #[true, true, true, true, true, true, true, true, true, false, false, false] rfl rfl (one_of HT_.out (by kernel_rfl)) (by decide) (fun K hK => ?_)
           refine Kd.R_append_rows_step (Kd.int .i64) (w0 := w) w.heap.size (by rfl) (.tmp 129) (.tmp 132) 22 3 (.int .i64 0) 8 rfl Try.underlying22 info3 rfl (by decide) (by omega) (.slice Ao76 x20_2.length co76) x20_2 y177 _ _ _ (fun k_ => some k_ ≠ (.slice Ao77 x21_2.length co77 : Value).ownBlock ∧ some k_ ≠ (v184 : Value).ownBlock ∧ some k_ ≠ (.slice Ao85 y177.length co85 : Value).ownBlock) (fun _ => False) rfl rfl ?aO ?aR (fun _ _ h => h) (fun _ h => h.elim) ?aF ?aB ?aS ?aL ?_
           (case aR => repeat (first | exact (Kd.R_reads' HO179.out).2.2 | (with_reducible refine Kd.C_alloc ?_ _) | (with_reducible refine Kd.C_drewN ?_ _) | (with_reducible refine Kd.C_drew ?_)))
           (case aB => exact (by repeat (first | (with_reducible first | exact HB.out | apply qg | apply qe | apply qf | refine qd ?_ Ga.out | refine qd ?_ Gb.out | refine qd ?_ Gc.out | refine qd ?_ GE176.out) | exact HB.out)))
           (case aF => exact (fun k_ hk => ⟨Kd.fresh' (Kd.R_lt (by (with_reducible repeat (first | apply qk | apply qj | apply ql)); exact HO_21.out)) k_ hk, Kd.fresh' (Kd.R_lt (by (with_reducible repeat (first | apply qk | apply qj | apply ql)); exact HO185.out)) k_ hk, Kd.fresh' (Kd.R_lt (by (with_reducible repeat (first | apply qk | apply qj | apply ql)); exact HO179.out)) k_ hk⟩))
           (case aO => exact (by (with_reducible repeat (first | apply qk | apply qj | apply ql)); exact Kd.R_mono HO_20.out (fun _ hk => ⟨hk.1.1, ⟨hk.1.2, hk.2⟩⟩)))
           (case aS => exact (below_size (by repeat (first | (with_reducible first | exact HB.out | apply qg | apply qe | apply qf | refine qd ?_ Ga.out | refine qd ?_ Gb.out | refine qd ?_ Gc.out | refine qd ?_ GE176.out) | exact HB.out))))
           (case aL => have := LMc69.out; omega)
           intro v181 w84 ho hb hg hat
           rw [← Ny180.out] at ho
           have n0_ := Aside0.mk (Kd.R_over' (by (with_reducible repeat (first | apply qk | apply qj | apply ql)); exact HO_8.out) (Kd.R_typed (by (with_reducible repeat (first | apply qk | apply qj | apply ql)); exact HO_20.out)) (by decide) hg)
           have n1_ := Aside0.mk (Kd.R_after (ok := (fun k_ => some k_ ≠ (v184 : Value).ownBlock ∧ some k_ ≠ (.slice Ao85 y177.length co85 : Value).ownBlock)) (by (with_reducible repeat (first | apply qk | apply qj | apply ql)); exact Kd.R_mono HO_21.out (fun _ hk => ⟨⟨hk.1.2, hk.2⟩, hk.1.1⟩)) hg hat)
           have n2_ := Aside0.mk (blk_grown (g := gb149) (o := .cells #[.int .i64 a0_0, .int .i64 a0_1, .int .i64 a0_2] 25 (0, 0)) (by (with_reducible repeat (first | refine qa ?_ _ | refine qb ?_ | refine qc ?_ _)); exact Ka.out) hg (Kd.R_ne HO_20.out Ka.out (by decide)))
           have n3_ := Aside0.mk (blk_grown (g := gb150) (o := .cells #[.int .i64 a2_0, .string a2_1, .int .i64 a2_2, .int .i64 a2_3, .int .i64 a2_4, .int .i64 a2_5, .int .i64 a2_6] 45 (0, 0)) (by (with_reducible repeat (first | refine qa ?_ _ | refine qb ?_ | refine qc ?_ _)); exact Kb.out) hg (Kd.R_ne HO_20.out Kb.out (by decide)))
           have n4_ := Aside0.mk (blk_grown (g := gb173) (o := .cells #[.int .i64 t165, .string t166, .int .i64 t167, .int .i64 t168, .int .i64 t169, .int .i64 t170, .int .i64 t171] 45 (0, 0)) (by (with_reducible repeat (first | refine qa ?_ _ | refine qb ?_ | refine qc ?_ _)); exact Kc.out) hg (Kd.R_ne HO_20.out Kc.out (by decide)))
           have n5_ := Aside0.mk (blk_grown (g := gb176) (o := .cells #[.bool ((rd_T34 l1 x125_2).f0), .int .i64 ((rd_T34 l1 x125_2).f1), .int .i64 ((rd_T34 l1 x125_2).f2)] 34 (0, 0)) (by (with_reducible repeat (first | refine qa ?_ _ | refine qb ?_ | refine qc ?_ _)); exact BK176.out) hg (Kd.R_ne HO_20.out BK176.out (by decide)))
           have n6_ := Aside0.mk (Kd.R_after (ok := (fun k_ => some k_ ≠ (.slice Ao77 x21_2.length co77 : Value).ownBlock ∧ some k_ ≠ (.slice Ao85 y177.length co85 : Value).ownBlock)) (by (with_reducible repeat (first | apply qk | apply qj | apply ql)); exact Kd.R_mono HO185.out (fun _ hk => ⟨⟨hk.1.2, hk.2⟩, hk.1.1.2⟩)) hg hat)
           have n7_ := Aside0.mk (Kd.R_after (ok := (fun k_ => some k_ ≠ (.slice Ao77 x21_2.length co77 : Value).ownBlock ∧ some k_ ≠ (v184 : Value).ownBlock)) (by (with_reducible repeat (first | apply qk | apply qj | apply ql)); exact Kd.R_mono HO179.out (fun _ hk => ⟨⟨hk.1.2, hk.2⟩, hk.1.1.2⟩)) hg hat)
           have n8_ := Aside0.mk (hb)
           have n9_ := Aside0.mk (ho)
           clear HO_8
           clear HO_21
           clear Ka
           clear Kb
           clear Kc
           clear BK176
           clear HO185
           clear HO179
           clear HB
           clear HO_20
           have HO_8 := n0_
           have HO_21 := n1_
           have Ka := n2_
           have Kb := n3_
           have Kc := n4_
           have BK176 := n5_
           have HO185 := n6_
           have HO179 := n7_
           have HB := n8_
           have HO182 := n9_
           clear n0_ n1_ n2_ n3_ n4_ n5_ n6_ n7_ n8_ n9_
           clear ho hb hg hat
           refine hK.out _ _ ⟨(qi BK176.out 0).trans rfl, (qi BK176.out 1).trans rfl, (qi BK176.out 2).trans rfl⟩ (fun hHeld => ?_)
           clear hK K
           refine norm_ (a' := ?_) ?_ ?_
           rotate_left
           ·
            show Act.put _ (some 133) _ = _
            simp only [Act.put, List.setIfInBounds_toArray, List.set_cons_zero, List.set_cons_succ, i64_w, i32_w]
            rfl
           exact norm_ (by simp only [putAll, Act.put, List.setIfInBounds_toArray, List.set_cons_zero, List.set_cons_succ]) (hCont (.slice Ao85 y177.length co85, v181, v184) _ ⟨hHeld, (by (with_reducible repeat (first | apply qk | apply qj | apply ql)); exact Kd.R_mono HO179.out (fun _ hk => ⟨hk.2, ⟨hk.1.2, hk.1.1⟩⟩)), (by (with_reducible repeat (first | apply qk | apply qj | apply ql)); exact Kd.R_mono HO182.out (fun _ hk => ⟨hk.2.2, ⟨hk.2.1, hk.1⟩⟩)), (by (with_reducible repeat (first | apply qk | apply qj | apply ql)); exact Kd.R_mono HO185.out (fun _ hk => ⟨hk.1.2, ⟨hk.2, hk.1.1⟩⟩)), (by (with_reducible repeat (first | apply qk | apply qj | apply ql)); exact Kd.R_mono HO_21.out (fun _ hk => ⟨hk.1.2, ⟨hk.2, hk.1.1⟩⟩)), (by (with_reducible repeat (first | apply qk | apply qj | apply ql)); exact HO_8.out), (by (with_reducible repeat (first | refine qa ?_ _ | refine qb ?_ | refine qc ?_ _)); exact Ka.out), (by (with_reducible repeat (first | refine qa ?_ _ | refine qb ?_ | refine qc ?_ _)); exact Kb.out), (by (with_reducible repeat (first | refine qa ?_ _ | refine qb ?_ | refine qc ?_ _)); exact Kc.out), (by (with_reducible repeat (first | refine qa ?_ _ | refine qb ?_ | refine qc ?_ _)); exact BK176.out), (by repeat (first | (with_reducible first | exact HB.out | apply qg | apply qe | apply qf | refine qd ?_ Ga.out | refine qd ?_ Gb.out | refine qd ?_ Gc.out | refine qd ?_ GE176.out) | exact HB.out))⟩)
         rintro ⟨v178, v181, v184⟩ w86 ⟨hS_, h0_, h1_, h2_, h3_, h4_, h5_, h6_, h7_, h8_, h9_⟩
         have n0_ : Aside0 (Kd.R (Kd.int .i64) 3 w86 w.heap.size (fun k_ => some k_ ≠ (v181 : Value).ownBlock ∧ some k_ ≠ (v184 : Value).ownBlock ∧ some k_ ≠ (.slice Ao77 x21_2.length co77 : Value).ownBlock) v178 y177) := ⟨h0_⟩
         have n1_ : Aside0 (Kd.R (Kd.int .i64) 3 w86 w.heap.size (fun k_ => some k_ ≠ (v178 : Value).ownBlock ∧ some k_ ≠ (v184 : Value).ownBlock ∧ some k_ ≠ (.slice Ao77 x21_2.length co77 : Value).ownBlock) v181 y180) := ⟨h1_⟩
         have n2_ : Aside0 (Kd.R (Kd.int .i64) 3 w86 w.heap.size (fun k_ => some k_ ≠ (v178 : Value).ownBlock ∧ some k_ ≠ (v181 : Value).ownBlock ∧ some k_ ≠ (.slice Ao77 x21_2.length co77 : Value).ownBlock) v184 y183) := ⟨h2_⟩
         have n3_ : Aside0 (Kd.R (Kd.int .i64) 3 w86 w.heap.size (fun k_ => some k_ ≠ (v178 : Value).ownBlock ∧ some k_ ≠ (v181 : Value).ownBlock ∧ some k_ ≠ (v184 : Value).ownBlock) (.slice Ao77 x21_2.length co77) x21_2) := ⟨h3_⟩
         have n4_ : Aside0 (Kd.R Kd.bool 4 w86 w.heap.size (fun _ => True) v154 t153) := ⟨h4_⟩
         have n5_ : Aside0 (w86.heap[gb149]? = some (.cells #[.int .i64 a0_0, .int .i64 a0_1, .int .i64 a0_2] 25 (0, 0))) := ⟨h5_⟩
         have n6_ : Aside0 (w86.heap[gb150]? = some (.cells #[.int .i64 a2_0, .string a2_1, .int .i64 a2_2, .int .i64 a2_3, .int .i64 a2_4, .int .i64 a2_5, .int .i64 a2_6] 45 (0, 0))) := ⟨h6_⟩
         have n7_ : Aside0 (w86.heap[gb173]? = some (.cells #[.int .i64 t165, .string t166, .int .i64 t167, .int .i64 t168, .int .i64 t169, .int .i64 t170, .int .i64 t171] 45 (0, 0))) := ⟨h7_⟩
         have n8_ : Aside0 (w86.heap[gb176]? = some (.cells #[.bool ((rd_T34 l1 x125_2).f0), .int .i64 ((rd_T34 l1 x125_2).f1), .int .i64 ((rd_T34 l1 x125_2).f2)] 34 (0, 0))) := ⟨h8_⟩
         have n9_ : Aside0 (Below w.heap.size w w86) := ⟨h9_⟩
         clear HO_8
         clear HO_20
         clear HO_21
         clear Ka
         clear Kb
         clear Kc
         clear BK176
         clear HB
         clear h0_ h1_ h2_ h3_ h4_ h5_ h6_ h7_ h8_ h9_
         have HO179 := n0_
         have HO182 := n1_
         have HO185 := n2_
         have HO_21 := n3_
         have HO_8 := n4_
         have Ka := n5_
         have Kb := n6_
         have Kc := n7_
         have BK176 := n8_
         have HB := n9_
         clear n0_ n1_ n2_ n3_ n4_ n5_ n6_ n7_ n8_ n9_
         have hHeld : w86.cell? ⟨gb176, 0, none⟩ = some (.bool ((rd_T34 l1 x125_2).f0)) ∧ w86.cell? ⟨gb176, 1, none⟩ = some (.int .i64 ((rd_T34 l1 x125_2).f1)) ∧ w86.cell? ⟨gb176, 2, none⟩ = some (.int .i64 ((rd_T34 l1 x125_2).f2)) := hS_
         obtain ⟨Ao88, co88, eo88⟩ := Kd.R_slice HO185.out
         (first | subst eo88 | (injection eo88 with f1_ f2_ f3_; have f4_ := f1_.symm; have f5_ := f3_.symm; clear f1_ f2_ f3_; subst f4_; subst f5_))
         refine norm_ (a' := ?_) ?_ ?_
         rotate_left
         ·
          simp only [putAll, Act.put, List.setIfInBounds_toArray, List.set_cons_zero, List.set_cons_succ]
          rfl
         refine one_ (i := 9) (N := some 138) #[true, true, true, true, true, true, true, true, true, true, false, false] rfl rfl (one_of HT_.out (by kernel_rfl)) (by decide) (fun K hK => ?_)
         refine Kd.R_append_rows_step (Kd.int .i64) (w0 := w) w.heap.size (by rfl) (.tmp 134) (.tmp 137) 22 3 (.int .i64 0) 8 rfl Try.underlying22 info3 rfl (by decide) (by omega) (.slice Ao77 x21_2.length co77) x21_2 y183 _ _ _ (fun k_ => some k_ ≠ (v178 : Value).ownBlock ∧ some k_ ≠ (v181 : Value).ownBlock ∧ some k_ ≠ (.slice Ao88 y183.length co88 : Value).ownBlock) (fun _ => False) rfl rfl ?aO ?aR (fun _ _ h => h) (fun _ h => h.elim) ?aF ?aB ?aS ?aL ?_
         (case aR => repeat (first | exact (Kd.R_reads' HO185.out).2.2 | (with_reducible refine Kd.C_alloc ?_ _) | (with_reducible refine Kd.C_drewN ?_ _) | (with_reducible refine Kd.C_drew ?_)))
         (case aB => exact (by repeat (first | (with_reducible first | exact HB.out | apply qg | apply qe | apply qf | refine qd ?_ Ga.out | refine qd ?_ Gb.out | refine qd ?_ Gc.out | refine qd ?_ GE176.out) | exact HB.out)))
         (case aF => exact (fun k_ hk => ⟨Kd.fresh' (Kd.R_lt (by (with_reducible repeat (first | apply qk | apply qj | apply ql)); exact HO179.out)) k_ hk, Kd.fresh' (Kd.R_lt (by (with_reducible repeat (first | apply qk | apply qj | apply ql)); exact HO182.out)) k_ hk, Kd.fresh' (Kd.R_lt (by (with_reducible repeat (first | apply qk | apply qj | apply ql)); exact HO185.out)) k_ hk⟩))
         (case aO => exact (by (with_reducible repeat (first | apply qk | apply qj | apply ql)); exact HO_21.out))
         (case aS => exact (below_size (by repeat (first | (with_reducible first | exact HB.out | apply qg | apply qe | apply qf | refine qd ?_ Ga.out | refine qd ?_ Gb.out | refine qd ?_ Gc.out | refine qd ?_ GE176.out) | exact HB.out))))
         (case aL => have := LMc70.out; omega)
         intro v187 w87 ho hb hg hat
         rw [← Ny186.out] at ho
         have n0_ := Aside0.mk (Kd.R_over' (by (with_reducible repeat (first | apply qk | apply qj | apply ql)); exact HO_8.out) (Kd.R_typed (by (with_reducible repeat (first | apply qk | apply qj | apply ql)); exact HO_21.out)) (by decide) hg)
         have n1_ := Aside0.mk (blk_grown (g := gb149) (o := .cells #[.int .i64 a0_0, .int .i64 a0_1, .int .i64 a0_2] 25 (0, 0)) (by (with_reducible repeat (first | refine qa ?_ _ | refine qb ?_ | refine qc ?_ _)); exact Ka.out) hg (Kd.R_ne HO_21.out Ka.out (by decide)))
         have n2_ := Aside0.mk (blk_grown (g := gb150) (o := .cells #[.int .i64 a2_0, .string a2_1, .int .i64 a2_2, .int .i64 a2_3, .int .i64 a2_4, .int .i64 a2_5, .int .i64 a2_6] 45 (0, 0)) (by (with_reducible repeat (first | refine qa ?_ _ | refine qb ?_ | refine qc ?_ _)); exact Kb.out) hg (Kd.R_ne HO_21.out Kb.out (by decide)))
         have n3_ := Aside0.mk (blk_grown (g := gb173) (o := .cells #[.int .i64 t165, .string t166, .int .i64 t167, .int .i64 t168, .int .i64 t169, .int .i64 t170, .int .i64 t171] 45 (0, 0)) (by (with_reducible repeat (first | refine qa ?_ _ | refine qb ?_ | refine qc ?_ _)); exact Kc.out) hg (Kd.R_ne HO_21.out Kc.out (by decide)))
         have n4_ := Aside0.mk (blk_grown (g := gb176) (o := .cells #[.bool ((rd_T34 l1 x125_2).f0), .int .i64 ((rd_T34 l1 x125_2).f1), .int .i64 ((rd_T34 l1 x125_2).f2)] 34 (0, 0)) (by (with_reducible repeat (first | refine qa ?_ _ | refine qb ?_ | refine qc ?_ _)); exact BK176.out) hg (Kd.R_ne HO_21.out BK176.out (by decide)))
         have n5_ := Aside0.mk (Kd.R_after (ok := (fun k_ => some k_ ≠ (v181 : Value).ownBlock ∧ some k_ ≠ (.slice Ao88 y183.length co88 : Value).ownBlock)) (by (with_reducible repeat (first | apply qk | apply qj | apply ql)); exact Kd.R_mono HO179.out (fun _ hk => ⟨⟨hk.1, hk.2.1⟩, hk.2.2⟩)) hg hat)
         have n6_ := Aside0.mk (Kd.R_after (ok := (fun k_ => some k_ ≠ (v178 : Value).ownBlock ∧ some k_ ≠ (.slice Ao88 y183.length co88 : Value).ownBlock)) (by (with_reducible repeat (first | apply qk | apply qj | apply ql)); exact Kd.R_mono HO182.out (fun _ hk => ⟨⟨hk.1, hk.2.1⟩, hk.2.2⟩)) hg hat)
         have n7_ := Aside0.mk (Kd.R_after (ok := (fun k_ => some k_ ≠ (v178 : Value).ownBlock ∧ some k_ ≠ (v181 : Value).ownBlock)) (by (with_reducible repeat (first | apply qk | apply qj | apply ql)); exact Kd.R_mono HO185.out (fun _ hk => ⟨⟨hk.1, hk.2.1⟩, hk.2.2⟩)) hg hat)
         have n8_ := Aside0.mk (hb)
         have n9_ := Aside0.mk (ho)
         clear HO_8
         clear Ka
         clear Kb
         clear Kc
         clear BK176
         clear HO179
         clear HO182
         clear HO185
         clear HB
         clear HO_21
         have HO_8 := n0_
         have Ka := n1_
         have Kb := n2_
         have Kc := n3_
         have BK176 := n4_
         have HO179 := n5_
         have HO182 := n6_
         have HO185 := n7_
         have HB := n8_
         have HO188 := n9_
         clear n0_ n1_ n2_ n3_ n4_ n5_ n6_ n7_ n8_ n9_
         clear ho hb hg hat
         refine hK.out _ _ ⟨(qi BK176.out 0).trans rfl, (qi BK176.out 1).trans rfl, (qi BK176.out 2).trans rfl⟩ (fun hHeld => ?_)
         clear hK K
         refine norm_ (a' := ?_) ?_ ?_
         rotate_left
         ·
          show Act.put _ (some 138) _ = _
          simp only [Act.put, List.setIfInBounds_toArray, List.set_cons_zero, List.set_cons_succ, i64_w, i32_w]
          rfl
         refine pure_ (i := 10) (N := some 20) (v := ?_) (a' := ?_) #[true, true, true, true, true, true, true, true, true, true, true, false] rfl rfl (any_of HT_.out (by kernel_rfl)) (fun _ _ _ h => h) (Or.inl ⟨by rfl, ?_⟩) ?_ ?_
         rotate_left
         ·
          intro w'
          go_simp
          with_reducible rfl
         rotate_left
         ·
          simp only [Act.put, List.setIfInBounds_toArray, List.set_cons_zero, List.set_cons_succ, i64_w, i32_w]
          rfl
         refine pure_ (i := 11) (N := some 21) (v := ?_) (a' := ?_) #[true, true, true, true, true, true, true, true, true, true, true, true] rfl rfl (any_of HT_.out (by kernel_rfl)) (fun _ _ _ h => h) (Or.inl ⟨by rfl, ?_⟩) ?_ ?_
         rotate_left
         ·
          intro w'
          go_simp
          with_reducible rfl
         rotate_left
         ·
          simp only [Act.put, List.setIfInBounds_toArray, List.set_cons_zero, List.set_cons_succ, i64_w, i32_w]
          rfl
         refine done_ (done_of HT_.out (by kernel_rfl)) ?_
         try go_wp2
         go_roundg k2
         case measure => have := HJ11.out; have := HK2.out; omega
         case rel => exact ⟨(y180), (y186), (wrap64 (x125_2 + 1)), (by first | rfl | (simp; done) | (simp [*]; done)), H', ⟨by have := HJ11.out; have := HK2.out; omega⟩, ⟨by (with_reducible repeat (first | apply qk | apply qj | apply ql)); exact HO_8.out⟩, ⟨by (with_reducible repeat (first | apply qk | apply qj | apply ql)); exact Kd.R_mono HO182.out (fun _ hk => hk.2)⟩, ⟨by (with_reducible repeat (first | apply qk | apply qj | apply ql)); exact Kd.R_mono HO188.out (fun _ hk => hk.2.1)⟩, ⟨by (with_reducible repeat (first | refine qa ?_ _ | refine qb ?_ | refine qc ?_ _)); exact Ka.out⟩, ⟨by (with_reducible repeat (first | refine qa ?_ _ | refine qb ?_ | refine qc ?_ _)); exact Kb.out⟩, ⟨by (with_reducible repeat (first | refine qa ?_ _ | refine qb ?_ | refine qc ?_ _)); exact Kc.out⟩, ⟨by repeat (first | (with_reducible first | exact HB.out | apply qg | apply qe | apply qf | refine qd ?_ Ga.out | refine qd ?_ Gb.out | refine qd ?_ Gc.out | refine qd ?_ GE176.out) | exact HB.out)⟩⟩
        ·
         rw [if_neg c66] at H
         have c66b0 : decide (x125_2 < (l1.length : Int)) = false := decide_eq_false c66
         clear c66
         replace H := Option.bind_eq_some_iff.mp H
         obtain ⟨t189, A890, H⟩ := H
         replace H : (mootlaw4_BurdenTells.l1 k2 t153 t157 t158 t160 t162 t163 t189 0 0 l1 (l1.length : Int) 0 a0_0 a0_1 a0_2 a2_0 a2_1 a2_2 a2_3 a2_4 a2_5 a2_6 t165 t166 t167 t168 t169 t170 t171) = some r := H
         have A89 := Aside0.mk A890
         clear A890
         have H' := Aside0.mk H
         clear H
         obtain ⟨Ao90, co90, eo90⟩ := Kd.R_slice HO_20.out
         subst eo90
         obtain ⟨Ao91, co91, eo91⟩ := Kd.R_slice HO_21.out
         subst eo91
         go_wp2_with (first | ((with_reducible refine gate_callee (f := 26) rfl ?_); refine goesL_ (some 142) rfl rfl Try.func26 (by kernel_rfl) rfl #[.slice Ao90 x20_2.length co90, .slice Ao91 x21_2.length co91] rfl (by (try simp only [List.map_toArray, List.map_cons, List.map_nil]); first | done | rfl | (simp only [List.length_drop, List.length_take]; rfl)) ?_; (with_reducible refine (mootref4_Stands.calls _ _ x20_2 _ _ x21_2 t189 _ ?side1 ?side2 ?side3 ?side4 A89.out).mono ?_); (case side1 => repeat (first | exact (Kd.R_reads' HO_20.out).2.2 | (with_reducible refine Kd.C_alloc ?_ _) | (with_reducible refine Kd.C_drewN ?_ _) | (with_reducible refine Kd.C_drew ?_))); (case side2 => exact (Kd.R_reads' HO_20.out).2.1); (case side3 => repeat (first | exact (Kd.R_reads' HO_21.out).2.2 | (with_reducible refine Kd.C_alloc ?_ _) | (with_reducible refine Kd.C_drewN ?_ _) | (with_reducible refine Kd.C_drew ?_))); (case side4 => exact (Kd.R_reads' HO_21.out).2.1); rintro e w92 ⟨v190, rfl, ho0, hb⟩; refine ⟨_, rfl, ?_⟩; have n0_ := Aside0.mk (Kd.R_elder' (by (with_reducible repeat (first | apply qk | apply qj | apply ql)); exact HO_8.out) (Kd.R_base ho0) hb); have n1_ := Aside0.mk (Kd.R_below (by (with_reducible repeat (first | apply qk | apply qj | apply ql)); exact HO_20.out) hb); have n2_ := Aside0.mk (Kd.R_below (by (with_reducible repeat (first | apply qk | apply qj | apply ql)); exact HO_21.out) hb); have n3_ := Aside0.mk (Kd.R_lower (Kd.R_new' ho0 (Kd.R_lt (by (with_reducible repeat (first | apply qk | apply qj | apply ql)); exact HO_8.out))) (below_size (by repeat (first | (with_reducible first | exact HB.out | apply qg | apply qe | apply qf | refine qd ?_ Ga.out | refine qd ?_ Gb.out | refine qd ?_ Gc.out) | exact HB.out)))); have n4_ := Aside0.mk (blk_below (g := gb149) (o := .cells #[.int .i64 a0_0, .int .i64 a0_1, .int .i64 a0_2] 25 (0, 0)) (by (with_reducible repeat (first | refine qa ?_ _ | refine qb ?_ | refine qc ?_ _)); exact Ka.out) hb); have n5_ := Aside0.mk (blk_below (g := gb150) (o := .cells #[.int .i64 a2_0, .string a2_1, .int .i64 a2_2, .int .i64 a2_3, .int .i64 a2_4, .int .i64 a2_5, .int .i64 a2_6] 45 (0, 0)) (by (with_reducible repeat (first | refine qa ?_ _ | refine qb ?_ | refine qc ?_ _)); exact Kb.out) hb); have n6_ := Aside0.mk (blk_below (g := gb173) (o := .cells #[.int .i64 t165, .string t166, .int .i64 t167, .int .i64 t168, .int .i64 t169, .int .i64 t170, .int .i64 t171] 45 (0, 0)) (by (with_reducible repeat (first | refine qa ?_ _ | refine qb ?_ | refine qc ?_ _)); exact Kc.out) hb); have n7_ := Aside0.mk (below_step (by repeat (first | (with_reducible first | exact HB.out | apply qg | apply qe | apply qf | refine qd ?_ Ga.out | refine qd ?_ Gb.out | refine qd ?_ Gc.out) | exact HB.out)) hb); clear HO_8; clear HO_20; clear HO_21; clear Ka; clear Kb; clear Kc; clear HB; have HO_8 := n0_; have HO_20 := n1_; have HO_21 := n2_; have HO191 := n3_; have Ka := n4_; have Kb := n5_; have Kc := n6_; have HB := n7_; clear n0_ n1_ n2_ n3_ n4_ n5_ n6_ n7_; (try clear hb); (try clear hb2); (try clear hk); (try clear hi); (try clear ho0)))
         go_loopg [25, 26, 145] k2 (fun kq v25 v26 v145 w' => ∃ (x25_3 : Int) (x26_3 : Int) (x145_3 : Int), v25 = .int .i64 x25_3 ∧ v26 = .int .i64 x26_3 ∧ v145 = .int .i64 x145_3 ∧ Aside0 (mootlaw4_BurdenTells.l1 kq t153 t157 t158 t160 t162 t163 t189 x25_3 x26_3 l1 (l1.length : Int) x145_3 a0_0 a0_1 a0_2 a2_0 a2_1 a2_2 a2_3 a2_4 a2_5 a2_6 t165 t166 t167 t168 t169 t170 t171 = some r) ∧ Aside0 (kq ≤ k2) ∧ Aside0 (Kd.R Kd.bool 4 w' w.heap.size (fun k_ => some k_ ≠ (v190 : Value).ownBlock) v154 t153) ∧ Aside0 (Kd.R Kd.bool 4 w' w.heap.size (fun k_ => some k_ ≠ (v154 : Value).ownBlock) v190 t189) ∧ Aside0 (w'.heap[gb149]? = some (.cells #[.int .i64 a0_0, .int .i64 a0_1, .int .i64 a0_2] 25 (0, 0))) ∧ Aside0 (w'.heap[gb150]? = some (.cells #[.int .i64 a2_0, .string a2_1, .int .i64 a2_2, .int .i64 a2_3, .int .i64 a2_4, .int .i64 a2_5, .int .i64 a2_6] 45 (0, 0))) ∧ Aside0 (w'.heap[gb173]? = some (.cells #[.int .i64 t165, .string t166, .int .i64 t167, .int .i64 t168, .int .i64 t169, .int .i64 t170, .int .i64 t171] 45 (0, 0))) ∧ Aside0 (Below w.heap.size w w'))
         case atStart => exact ⟨(0), (0), (0), (by first | rfl | (simp; done) | (simp [*]; done)), (by first | rfl | (simp; done) | (simp [*]; done)), (by first | rfl | (simp; done) | (simp [*]; done)), H', ⟨Nat.le_refl _⟩, ⟨by (with_reducible repeat (first | apply qk | apply qj | apply ql)); exact Kd.R_mono HO_8.out (fun _ hk => hk.2)⟩, ⟨by (with_reducible repeat (first | apply qk | apply qj | apply ql)); exact Kd.R_mono HO191.out (fun _ hk => hk.2)⟩, ⟨by (with_reducible repeat (first | refine qa ?_ _ | refine qb ?_ | refine qc ?_ _)); exact Ka.out⟩, ⟨by (with_reducible repeat (first | refine qa ?_ _ | refine qb ?_ | refine qc ?_ _)); exact Kb.out⟩, ⟨by (with_reducible repeat (first | refine qa ?_ _ | refine qb ?_ | refine qc ?_ _)); exact Kc.out⟩, ⟨by repeat (first | (with_reducible first | exact HB.out | apply qg | apply qe | apply qf | refine qd ?_ Ga.out | refine qd ?_ Gb.out | refine qd ?_ Gc.out) | exact HB.out)⟩⟩
         case round =>
          clear H'
          try clear c2
          try clear p2
          try clear c6
          try clear p6
          try clear c7
          try clear c26
          try clear p64
          try clear c66
          try clear c66b0
          try clear c67
          try clear c68
          try clear c69
          try clear c70
          obtain ⟨x25_3, x26_3, x145_3, rfl, rfl, rfl, HA, HK3, HO_8, HO_24, Ka, Kb, Kc, HB⟩ := hrel
          cases gk with
          | zero => exact absurd HA.out (by simp [mootlaw4_BurdenTells.l1])
          | succ k3 =>
           have H := HA.out
           clear HA
           simp only [mootlaw4_BurdenTells.l1] at H
           by_cases c93 : x145_3 < (l1.length : Int)
           · as_aux_lemma =>
            rw [if_pos c93] at H
            have c93b0 : decide (x145_3 < (l1.length : Int)) = true := decide_eq_true c93
            clear c93
            by_cases c94 : 0 ≤ x145_3
            rotate_left
            ·
             rw [if_neg c94] at H
             exact absurd H (by simp)
            rw [if_pos c94] at H
            have c94b0 : decide (0 ≤ x145_3) = true := decide_eq_true c94
            clear c94
            by_cases c95 : x145_3 < (l1.length : Int)
            rotate_left
            ·
             rw [if_neg c95] at H
             exact absurd H (by simp)
            rw [if_pos c95] at H
            have c95b0 : decide (x145_3 < (l1.length : Int)) = true := decide_eq_true c95
            clear c95
            have HC96 := Aside0.mk H
            clear H
            have p192 : 0 ≤ (x145_3 : Int) := of_decide_eq_true (by first | (with_reducible assumption) | assumption)
            have q192 : x145_3 < (l1.length : Int) := of_decide_eq_true (by first | (with_reducible assumption) | assumption)
            obtain ⟨ad192, e192, hx192_0, hx192_1, hx192_2⟩ := at_T34 HR1.out x145_3 p192 q192
            cases e192
            replace hx192_0 := (HB.out.cell (World.block_lt_of_cell? w _ hx192_0)).trans hx192_0
            replace hx192_1 := (HB.out.cell (World.block_lt_of_cell? w _ hx192_1)).trans hx192_1
            replace hx192_2 := (HB.out.cell (World.block_lt_of_cell? w _ hx192_2)).trans hx192_2
            replace p192 := eq_true p192
            replace q192 := eq_true q192
            go_upto_region 24 with (first | ((with_reducible refine gate_dst (N := 28) rfl ?_); refine box_event ?hg (N := 28) ?hd (cs := #[.bool false, .int .i64 0, .int .i64 0]) (t := 34) ?hr ?_; (case hd => rfl); (case hg => rfl); (case hr => first | (go_simp; done) | (go_simp; rfl)); intro gb193 hg w97 hbox hb; have n0_ := Aside0.mk (Kd.R_below (by (with_reducible repeat (first | apply qk | apply qj | apply ql)); exact HO_8.out) hb); have n1_ := Aside0.mk (Kd.R_below (by (with_reducible repeat (first | apply qk | apply qj | apply ql)); exact HO_24.out) hb); have n2_ := Aside0.mk (blk_below (g := gb149) (o := .cells #[.int .i64 a0_0, .int .i64 a0_1, .int .i64 a0_2] 25 (0, 0)) (by (with_reducible repeat (first | refine qa ?_ _ | refine qb ?_ | refine qc ?_ _)); exact Ka.out) hb); have n3_ := Aside0.mk (blk_below (g := gb150) (o := .cells #[.int .i64 a2_0, .string a2_1, .int .i64 a2_2, .int .i64 a2_3, .int .i64 a2_4, .int .i64 a2_5, .int .i64 a2_6] 45 (0, 0)) (by (with_reducible repeat (first | refine qa ?_ _ | refine qb ?_ | refine qc ?_ _)); exact Kb.out) hb); have n4_ := Aside0.mk (blk_below (g := gb173) (o := .cells #[.int .i64 t165, .string t166, .int .i64 t167, .int .i64 t168, .int .i64 t169, .int .i64 t170, .int .i64 t171] 45 (0, 0)) (by (with_reducible repeat (first | refine qa ?_ _ | refine qb ?_ | refine qc ?_ _)); exact Kc.out) hb); have n5_ := Aside0.mk (below_step (by repeat (first | (with_reducible first | exact HB.out | apply qg | apply qe | apply qf | refine qd ?_ Ga.out | refine qd ?_ Gb.out | refine qd ?_ Gc.out) | exact HB.out)) hb); have n6_ := Aside0.mk (hbox); have n7_ := Aside0.mk ((by rw [hg]; exact (below_size (by repeat (first | (with_reducible first | exact HB.out | apply qg | apply qe | apply qf | refine qd ?_ Ga.out | refine qd ?_ Gb.out | refine qd ?_ Gc.out) | exact HB.out))) : w.heap.size ≤ gb193)); have n8_ := Aside0.mk ((by rw [hg]; exact (below_size (by repeat (first | (with_reducible first | exact HB.out | apply qg | apply qe | apply qf | refine qd ?_ Ga.out | refine qd ?_ Gb.out | refine qd ?_ Gc.out) | exact HB.out))) : w.heap.size ≤ gb193)); have n9_ := Aside0.mk ((by rw [hg]; exact Nat.ne_of_lt (blk_lt (g := gb149) (o := .cells #[.int .i64 a0_0, .int .i64 a0_1, .int .i64 a0_2] 25 (0, 0)) (by (with_reducible repeat (first | refine qa ?_ _ | refine qb ?_ | refine qc ?_ _)); exact Ka.out)) : gb149 ≠ gb193)); have n10_ := Aside0.mk ((by rw [hg]; exact Nat.ne_of_gt (blk_lt (g := gb149) (o := .cells #[.int .i64 a0_0, .int .i64 a0_1, .int .i64 a0_2] 25 (0, 0)) (by (with_reducible repeat (first | refine qa ?_ _ | refine qb ?_ | refine qc ?_ _)); exact Ka.out)) : gb193 ≠ gb149)); have n11_ := Aside0.mk ((by rw [hg]; exact Nat.ne_of_lt (blk_lt (g := gb150) (o := .cells #[.int .i64 a2_0, .string a2_1, .int .i64 a2_2, .int .i64 a2_3, .int .i64 a2_4, .int .i64 a2_5, .int .i64 a2_6] 45 (0, 0)) (by (with_reducible repeat (first | refine qa ?_ _ | refine qb ?_ | refine qc ?_ _)); exact Kb.out)) : gb150 ≠ gb193)); have n12_ := Aside0.mk ((by rw [hg]; exact Nat.ne_of_gt (blk_lt (g := gb150) (o := .cells #[.int .i64 a2_0, .string a2_1, .int .i64 a2_2, .int .i64 a2_3, .int .i64 a2_4, .int .i64 a2_5, .int .i64 a2_6] 45 (0, 0)) (by (with_reducible repeat (first | refine qa ?_ _ | refine qb ?_ | refine qc ?_ _)); exact Kb.out)) : gb193 ≠ gb150)); have n13_ := Aside0.mk ((by rw [hg]; exact Nat.ne_of_lt (blk_lt (g := gb173) (o := .cells #[.int .i64 t165, .string t166, .int .i64 t167, .int .i64 t168, .int .i64 t169, .int .i64 t170, .int .i64 t171] 45 (0, 0)) (by (with_reducible repeat (first | refine qa ?_ _ | refine qb ?_ | refine qc ?_ _)); exact Kc.out)) : gb173 ≠ gb193)); have n14_ := Aside0.mk ((by rw [hg]; exact Nat.ne_of_gt (blk_lt (g := gb173) (o := .cells #[.int .i64 t165, .string t166, .int .i64 t167, .int .i64 t168, .int .i64 t169, .int .i64 t170, .int .i64 t171] 45 (0, 0)) (by (with_reducible repeat (first | refine qa ?_ _ | refine qb ?_ | refine qc ?_ _)); exact Kc.out)) : gb193 ≠ gb173)); clear HO_8; clear HO_24; clear Ka; clear Kb; clear Kc; clear HB; have HO_8 := n0_; have HO_24 := n1_; have Ka := n2_; have Kb := n3_; have Kc := n4_; have HB := n5_; have BK193 := n6_; have GW193 := n7_; have GE193 := n8_; have NB149_193 := n9_; have NB193_149 := n10_; have NB150_193 := n11_; have NB193_150 := n12_; have NB173_193 := n13_; have NB193_173 := n14_; clear n0_ n1_ n2_ n3_ n4_ n5_ n6_ n7_ n8_ n9_ n10_ n11_ n12_ n13_ n14_; clear hb hbox hg; have hnb98 := NB193_149.out; have hnc98 := NB149_193.out; have hnb99 := NB193_150.out; have hnc99 := NB150_193.out; have hnb100 := NB193_173.out; have hnc100 := NB173_193.out; have hcz101_0 : w97.cell? ⟨gb193, 0, none⟩ = some (.bool false) := (qi BK193.out 0).trans rfl; have hcz101_1 : w97.cell? ⟨gb193, 1, none⟩ = some (.int .i64 0) := (qi BK193.out 1).trans rfl; have hcz101_2 : w97.cell? ⟨gb193, 2, none⟩ = some (.int .i64 0) := (qi BK193.out 2).trans rfl; have hfz101_0 := qh BK193.out 0; have hfz101_1 := qh BK193.out 1; have hfz101_2 := qh BK193.out 2))
            (try simp only [Act.put, List.setIfInBounds_toArray, List.set_cons_zero, List.set_cons_succ])
            go_cut [157] (fun v157 wc => ∃ (kq : Nat) (x157_95 : Bool), v157 = .bool x157_95 ∧ Aside0 (mootlaw4_BurdenTells.j3 kq t153 t157 t158 t160 t162 t163 t189 x25_3 x26_3 x145_3 l1 (l1.length : Int) x145_3 x157_95 a0_0 a0_1 a0_2 a2_0 a2_1 a2_2 a2_3 a2_4 a2_5 a2_6 t165 t166 t167 t168 t169 t170 t171 ((rd_T34 l1 x145_3).f0) ((rd_T34 l1 x145_3).f1) ((rd_T34 l1 x145_3).f2) = some r) ∧ Aside0 (kq ≤ k3) ∧ Aside0 (Kd.R Kd.bool 4 wc w.heap.size (fun k_ => some k_ ≠ (v190 : Value).ownBlock) v154 t153) ∧ Aside0 (Kd.R Kd.bool 4 wc w.heap.size (fun k_ => some k_ ≠ (v154 : Value).ownBlock) v190 t189) ∧ Aside0 (wc.heap[gb149]? = some (.cells #[.int .i64 a0_0, .int .i64 a0_1, .int .i64 a0_2] 25 (0, 0))) ∧ Aside0 (wc.heap[gb150]? = some (.cells #[.int .i64 a2_0, .string a2_1, .int .i64 a2_2, .int .i64 a2_3, .int .i64 a2_4, .int .i64 a2_5, .int .i64 a2_6] 45 (0, 0))) ∧ Aside0 (wc.heap[gb173]? = some (.cells #[.int .i64 t165, .string t166, .int .i64 t167, .int .i64 t168, .int .i64 t169, .int .i64 t170, .int .i64 t171] 45 (0, 0))) ∧ Aside0 (wc.heap[gb193]? = some (.cells #[.bool ((rd_T34 l1 x145_3).f0), .int .i64 ((rd_T34 l1 x145_3).f1), .int .i64 ((rd_T34 l1 x145_3).f2)] 34 (0, 0))) ∧ Aside0 (Below w.heap.size w wc))
            case first =>
             have H := HC96.out
             clear HC96
             by_cases c102 : x145_3 < (t189.length : Int)
             rotate_left
             ·
              rw [if_neg c102] at H
              exact absurd H (by simp)
             rw [if_pos c102] at H
             have c102b0 : decide (x145_3 < (t189.length : Int)) = true := decide_eq_true c102
             clear c102
             (first | rw [c102b0] | (simp only [i64_w, i32_w]; rw [c102b0]) | skip)
             obtain ⟨bq103, hbq103⟩ : ∃ b_ : Bool, b_ = (rdOf false t189 x145_3) := ⟨_, rfl⟩
             replace H : (if bq103 = true then (mootlaw4_BurdenTells.j3 k3 t153 t157 t158 t160 t162 t163 t189 x25_3 x26_3 x145_3 l1 (l1.length : Int) x145_3 ((rd_T34 l1 x145_3).f0) a0_0 a0_1 a0_2 a2_0 a2_1 a2_2 a2_3 a2_4 a2_5 a2_6 t165 t166 t167 t168 t169 t170 t171 ((rd_T34 l1 x145_3).f0) ((rd_T34 l1 x145_3).f1) ((rd_T34 l1 x145_3).f2)) else (mootlaw4_BurdenTells.j3 k3 t153 t157 t158 t160 t162 t163 t189 x25_3 x26_3 x145_3 l1 (l1.length : Int) x145_3 false a0_0 a0_1 a0_2 a2_0 a2_1 a2_2 a2_3 a2_4 a2_5 a2_6 t165 t166 t167 t168 t169 t170 t171 ((rd_T34 l1 x145_3).f0) ((rd_T34 l1 x145_3).f1) ((rd_T34 l1 x145_3).f2))) = some r := by rw [← hbq103] at H; exact H
             have Nbq103 := Aside0.mk hbq103
             clear hbq103
             by_cases c104 : bq103 = true
             ·
              subst c104
              have H1 : (mootlaw4_BurdenTells.j3 k3 t153 t157 t158 t160 t162 t163 t189 x25_3 x26_3 x145_3 l1 (l1.length : Int) x145_3 ((rd_T34 l1 x145_3).f0) a0_0 a0_1 a0_2 a2_0 a2_1 a2_2 a2_3 a2_4 a2_5 a2_6 t165 t166 t167 t168 t169 t170 t171 ((rd_T34 l1 x145_3).f0) ((rd_T34 l1 x145_3).f1) ((rd_T34 l1 x145_3).f2)) = some r := by rw [if_pos rfl] at H; exact H
              clear H
              have H := H1
              clear H1
              have H' := Aside0.mk H
              clear H
              obtain ⟨Ao105, co105, eo105⟩ := Kd.R_slice HO_24.out
              subst eo105
              have p194 : 0 ≤ (x145_3 : Int) := of_decide_eq_true (by first | (with_reducible assumption) | assumption)
              have q194 : x145_3 < (t189.length : Int) := of_decide_eq_true (by first | (with_reducible assumption) | assumption)
              obtain ⟨ad194, e194, hx194_0⟩ := Kd.at_bool (Kd.R_reads' HO_24.out).2.2 x145_3 p194 q194
              (try rw [← Nbq103.out] at hx194_0)
              cases e194
              have hn194_0 : ad194.block ≠ gb193 := Kd.own_blk (Kd.R_ne HO_24.out BK193.out (by decide))
              have hn194_1 : ad194.block ≠ gb193 := Kd.own_blk (Kd.R_ne HO_24.out BK193.out (by decide))
              have hn194_2 : ad194.block ≠ gb193 := Kd.own_blk (Kd.R_ne HO_24.out BK193.out (by decide))
              replace hx194_0 := (cell_far (p := ⟨gb193, 0, none⟩) (by first | exact mootlaw4_BurdenTells.fa_ hn194_0 | exact hn194_0) (.bool ((rd_T34 l1 x145_3).f0))).trans hx194_0
              replace hx194_0 := (cell_far (p := ⟨gb193, 1, none⟩) (by first | exact mootlaw4_BurdenTells.fa_ hn194_1 | exact hn194_1) (.int .i64 ((rd_T34 l1 x145_3).f1))).trans hx194_0
              replace hx194_0 := (cell_far (p := ⟨gb193, 2, none⟩) (by first | exact mootlaw4_BurdenTells.fa_ hn194_2 | exact hn194_2) (.int .i64 ((rd_T34 l1 x145_3).f2))).trans hx194_0
              clear hn194_0
              clear hn194_1
              clear hn194_2
              replace p194 := eq_true p194
              replace q194 := eq_true q194
              have hnb106 := NB193_149.out
              have hnc106 := NB149_193.out
              have hnb107 := NB193_150.out
              have hnc107 := NB150_193.out
              have hnb108 := NB193_173.out
              have hnc108 := NB173_193.out
              have hcz109_0 : w97.cell? ⟨gb193, 0, none⟩ = some (.bool false) := (qi BK193.out 0).trans rfl
              have hcz109_1 : w97.cell? ⟨gb193, 1, none⟩ = some (.int .i64 0) := (qi BK193.out 1).trans rfl
              have hcz109_2 : w97.cell? ⟨gb193, 2, none⟩ = some (.int .i64 0) := (qi BK193.out 2).trans rfl
              have hfz109_0 := qh BK193.out 0
              have hfz109_1 := qh BK193.out 1
              have hfz109_2 := qh BK193.out 2
              go_wp2
              go_meet
              case rel => exact ⟨_, ((rd_T34 l1 x145_3).f0), (by first | rfl | (simp; done) | (simp [*]; done)), H', ⟨by have := HJ11.out; have := HK2.out; have := HK3.out; first | omega | exact Nat.le_refl _⟩, ⟨by (with_reducible repeat (first | apply qk | apply qj | apply ql)); exact Kd.R_mono (Kd.R_far (p := ⟨gb193, 2, none⟩) (Kd.R_far (p := ⟨gb193, 1, none⟩) (Kd.R_far (p := ⟨gb193, 0, none⟩) (Kd.R_types HO_8.out BK193.out (by decide)) (fun _ hk => hk.2) (.bool ((rd_T34 l1 x145_3).f0))) (fun _ hk => hk.2) (.int .i64 ((rd_T34 l1 x145_3).f1))) (fun _ hk => hk.2) (.int .i64 ((rd_T34 l1 x145_3).f2))) (fun _ hk => hk.1)⟩, ⟨by (with_reducible repeat (first | apply qk | apply qj | apply ql)); exact Kd.R_mono (Kd.R_far (p := ⟨gb193, 2, none⟩) (Kd.R_far (p := ⟨gb193, 1, none⟩) (Kd.R_far (p := ⟨gb193, 0, none⟩) (Kd.R_types HO_24.out BK193.out (by decide)) (fun _ hk => hk.2) (.bool ((rd_T34 l1 x145_3).f0))) (fun _ hk => hk.2) (.int .i64 ((rd_T34 l1 x145_3).f1))) (fun _ hk => hk.2) (.int .i64 ((rd_T34 l1 x145_3).f2))) (fun _ hk => hk.1)⟩, ⟨by (with_reducible repeat (first | refine qa ?_ _ | refine qb ?_ | refine qc ?_ _)); refine blk_far ?_ NB149_193.out _; (with_reducible repeat (first | refine qa ?_ _ | refine qb ?_ | refine qc ?_ _)); refine blk_far ?_ NB149_193.out _; (with_reducible repeat (first | refine qa ?_ _ | refine qb ?_ | refine qc ?_ _)); refine blk_far ?_ NB149_193.out _; (with_reducible repeat (first | refine qa ?_ _ | refine qb ?_ | refine qc ?_ _)); exact Ka.out⟩, ⟨by (with_reducible repeat (first | refine qa ?_ _ | refine qb ?_ | refine qc ?_ _)); refine blk_far ?_ NB150_193.out _; (with_reducible repeat (first | refine qa ?_ _ | refine qb ?_ | refine qc ?_ _)); refine blk_far ?_ NB150_193.out _; (with_reducible repeat (first | refine qa ?_ _ | refine qb ?_ | refine qc ?_ _)); refine blk_far ?_ NB150_193.out _; (with_reducible repeat (first | refine qa ?_ _ | refine qb ?_ | refine qc ?_ _)); exact Kb.out⟩, ⟨by (with_reducible repeat (first | refine qa ?_ _ | refine qb ?_ | refine qc ?_ _)); refine blk_far ?_ NB173_193.out _; (with_reducible repeat (first | refine qa ?_ _ | refine qb ?_ | refine qc ?_ _)); refine blk_far ?_ NB173_193.out _; (with_reducible repeat (first | refine qa ?_ _ | refine qb ?_ | refine qc ?_ _)); refine blk_far ?_ NB173_193.out _; (with_reducible repeat (first | refine qa ?_ _ | refine qb ?_ | refine qc ?_ _)); exact Kc.out⟩, ⟨by (with_reducible repeat (first | refine qa ?_ _ | refine qb ?_ | refine qc ?_ _)); refine blk_put (cs := #[.bool ((rd_T34 l1 x145_3).f0), .int .i64 ((rd_T34 l1 x145_3).f1), .int .i64 0]) ?_ 2 _ rfl; (with_reducible repeat (first | refine qa ?_ _ | refine qb ?_ | refine qc ?_ _)); refine blk_put (cs := #[.bool ((rd_T34 l1 x145_3).f0), .int .i64 0, .int .i64 0]) ?_ 1 _ rfl; (with_reducible repeat (first | refine qa ?_ _ | refine qb ?_ | refine qc ?_ _)); refine blk_put (cs := #[.bool false, .int .i64 0, .int .i64 0]) ?_ 0 _ rfl; (with_reducible repeat (first | refine qa ?_ _ | refine qb ?_ | refine qc ?_ _)); exact BK193.out⟩, ⟨by repeat (first | (with_reducible first | exact HB.out | apply qg | apply qe | apply qf | refine qd ?_ Ga.out | refine qd ?_ Gb.out | refine qd ?_ Gc.out | refine qd ?_ GE193.out) | exact HB.out)⟩⟩
             ·
              replace c104 := Bool.eq_false_iff.mpr c104
              subst c104
              have H1 : (mootlaw4_BurdenTells.j3 k3 t153 t157 t158 t160 t162 t163 t189 x25_3 x26_3 x145_3 l1 (l1.length : Int) x145_3 false a0_0 a0_1 a0_2 a2_0 a2_1 a2_2 a2_3 a2_4 a2_5 a2_6 t165 t166 t167 t168 t169 t170 t171 ((rd_T34 l1 x145_3).f0) ((rd_T34 l1 x145_3).f1) ((rd_T34 l1 x145_3).f2)) = some r := by rw [if_neg (show ¬ (false = true) by decide)] at H; exact H
              clear H
              have H := H1
              clear H1
              have H' := Aside0.mk H
              clear H
              obtain ⟨Ao110, co110, eo110⟩ := Kd.R_slice HO_24.out
              subst eo110
              have p194 : 0 ≤ (x145_3 : Int) := of_decide_eq_true (by first | (with_reducible assumption) | assumption)
              have q194 : x145_3 < (t189.length : Int) := of_decide_eq_true (by first | (with_reducible assumption) | assumption)
              obtain ⟨ad194, e194, hx194_0⟩ := Kd.at_bool (Kd.R_reads' HO_24.out).2.2 x145_3 p194 q194
              (try rw [← Nbq103.out] at hx194_0)
              cases e194
              have hn194_0 : ad194.block ≠ gb193 := Kd.own_blk (Kd.R_ne HO_24.out BK193.out (by decide))
              have hn194_1 : ad194.block ≠ gb193 := Kd.own_blk (Kd.R_ne HO_24.out BK193.out (by decide))
              have hn194_2 : ad194.block ≠ gb193 := Kd.own_blk (Kd.R_ne HO_24.out BK193.out (by decide))
              replace hx194_0 := (cell_far (p := ⟨gb193, 0, none⟩) (by first | exact mootlaw4_BurdenTells.fa_ hn194_0 | exact hn194_0) (.bool ((rd_T34 l1 x145_3).f0))).trans hx194_0
              replace hx194_0 := (cell_far (p := ⟨gb193, 1, none⟩) (by first | exact mootlaw4_BurdenTells.fa_ hn194_1 | exact hn194_1) (.int .i64 ((rd_T34 l1 x145_3).f1))).trans hx194_0
              replace hx194_0 := (cell_far (p := ⟨gb193, 2, none⟩) (by first | exact mootlaw4_BurdenTells.fa_ hn194_2 | exact hn194_2) (.int .i64 ((rd_T34 l1 x145_3).f2))).trans hx194_0
              clear hn194_0
              clear hn194_1
              clear hn194_2
              replace p194 := eq_true p194
              replace q194 := eq_true q194
              go_wp2
              go_meet
              case rel => exact ⟨_, (false), (by first | rfl | (simp; done) | (simp [*]; done)), H', ⟨by have := HJ11.out; have := HK2.out; have := HK3.out; first | omega | exact Nat.le_refl _⟩, ⟨by (with_reducible repeat (first | apply qk | apply qj | apply ql)); exact Kd.R_mono (Kd.R_far (p := ⟨gb193, 2, none⟩) (Kd.R_far (p := ⟨gb193, 1, none⟩) (Kd.R_far (p := ⟨gb193, 0, none⟩) (Kd.R_types HO_8.out BK193.out (by decide)) (fun _ hk => hk.2) (.bool ((rd_T34 l1 x145_3).f0))) (fun _ hk => hk.2) (.int .i64 ((rd_T34 l1 x145_3).f1))) (fun _ hk => hk.2) (.int .i64 ((rd_T34 l1 x145_3).f2))) (fun _ hk => hk.1)⟩, ⟨by (with_reducible repeat (first | apply qk | apply qj | apply ql)); exact Kd.R_mono (Kd.R_far (p := ⟨gb193, 2, none⟩) (Kd.R_far (p := ⟨gb193, 1, none⟩) (Kd.R_far (p := ⟨gb193, 0, none⟩) (Kd.R_types HO_24.out BK193.out (by decide)) (fun _ hk => hk.2) (.bool ((rd_T34 l1 x145_3).f0))) (fun _ hk => hk.2) (.int .i64 ((rd_T34 l1 x145_3).f1))) (fun _ hk => hk.2) (.int .i64 ((rd_T34 l1 x145_3).f2))) (fun _ hk => hk.1)⟩, ⟨by (with_reducible repeat (first | refine qa ?_ _ | refine qb ?_ | refine qc ?_ _)); refine blk_far ?_ NB149_193.out _; (with_reducible repeat (first | refine qa ?_ _ | refine qb ?_ | refine qc ?_ _)); refine blk_far ?_ NB149_193.out _; (with_reducible repeat (first | refine qa ?_ _ | refine qb ?_ | refine qc ?_ _)); refine blk_far ?_ NB149_193.out _; (with_reducible repeat (first | refine qa ?_ _ | refine qb ?_ | refine qc ?_ _)); exact Ka.out⟩, ⟨by (with_reducible repeat (first | refine qa ?_ _ | refine qb ?_ | refine qc ?_ _)); refine blk_far ?_ NB150_193.out _; (with_reducible repeat (first | refine qa ?_ _ | refine qb ?_ | refine qc ?_ _)); refine blk_far ?_ NB150_193.out _; (with_reducible repeat (first | refine qa ?_ _ | refine qb ?_ | refine qc ?_ _)); refine blk_far ?_ NB150_193.out _; (with_reducible repeat (first | refine qa ?_ _ | refine qb ?_ | refine qc ?_ _)); exact Kb.out⟩, ⟨by (with_reducible repeat (first | refine qa ?_ _ | refine qb ?_ | refine qc ?_ _)); refine blk_far ?_ NB173_193.out _; (with_reducible repeat (first | refine qa ?_ _ | refine qb ?_ | refine qc ?_ _)); refine blk_far ?_ NB173_193.out _; (with_reducible repeat (first | refine qa ?_ _ | refine qb ?_ | refine qc ?_ _)); refine blk_far ?_ NB173_193.out _; (with_reducible repeat (first | refine qa ?_ _ | refine qb ?_ | refine qc ?_ _)); exact Kc.out⟩, ⟨by (with_reducible repeat (first | refine qa ?_ _ | refine qb ?_ | refine qc ?_ _)); refine blk_put (cs := #[.bool ((rd_T34 l1 x145_3).f0), .int .i64 ((rd_T34 l1 x145_3).f1), .int .i64 0]) ?_ 2 _ rfl; (with_reducible repeat (first | refine qa ?_ _ | refine qb ?_ | refine qc ?_ _)); refine blk_put (cs := #[.bool ((rd_T34 l1 x145_3).f0), .int .i64 0, .int .i64 0]) ?_ 1 _ rfl; (with_reducible repeat (first | refine qa ?_ _ | refine qb ?_ | refine qc ?_ _)); refine blk_put (cs := #[.bool false, .int .i64 0, .int .i64 0]) ?_ 0 _ rfl; (with_reducible repeat (first | refine qa ?_ _ | refine qb ?_ | refine qc ?_ _)); exact BK193.out⟩, ⟨by repeat (first | (with_reducible first | exact HB.out | apply qg | apply qe | apply qf | refine qd ?_ Ga.out | refine qd ?_ Gb.out | refine qd ?_ Gc.out | refine qd ?_ GE193.out) | exact HB.out)⟩⟩
            case rest =>
             clear HC96
             try clear c1
             try clear p1
             try clear q1
             try clear hx1
             try clear c2
             try clear p2
             try clear c6
             try clear p6
             try clear c7
             try clear c9
             try clear c10
             try clear q10
             try clear p19
             try clear q19
             try clear hx19
             try clear c26
             try clear p64
             try clear c66
             try clear c66b0
             try clear c67
             try clear c68
             try clear c69
             try clear c70
             try clear c93
             try clear c93b0
             try clear c94
             try clear c94b0
             try clear c95
             try clear c95b0
             try clear c98
             try clear c99
             try clear c100
             try clear c102
             try clear c102b0
             try clear q103
             try clear c104
             try clear c106
             try clear c107
             try clear c108
             try clear hcz101_0 hcz101_1 hcz101_2
             try clear hcz109_0 hcz109_1 hcz109_2
             try clear hfz101_0 hfz101_1 hfz101_2
             try clear hfz109_0 hfz109_1 hfz109_2
             try clear hx192_0
             try clear hx192_1
             try clear hx192_2
             try clear hx194_0
             try clear p192
             try clear p194
             try clear p2
             try clear p6
             try clear p64
             try clear q192
             try clear q194
             obtain ⟨kq, x157_95, rfl, HA, HJ95, HO_8, HO_24, Ka, Kb, Kc, BK193, HB⟩ := hcut
             cases kq with
             | zero => exact absurd HA.out (by simp [mootlaw4_BurdenTells.j3])
             | succ kj95 =>
              have H := HA.out
              clear HA
              simp only [mootlaw4_BurdenTells.j3] at H
              have HC111 := Aside0.mk H
              clear H
              go_upto_if 157 with (fail)
              go_cut [25] (fun v25 wc => ∃ (kq : Nat) (x25_110 : Int), v25 = .int .i64 x25_110 ∧ Aside0 (mootlaw4_BurdenTells.j4 kq t153 t157 t158 t160 t162 t163 t189 x25_110 x26_3 x145_3 l1 (l1.length : Int) x145_3 a0_0 a0_1 a0_2 a2_0 a2_1 a2_2 a2_3 a2_4 a2_5 a2_6 t165 t166 t167 t168 t169 t170 t171 ((rd_T34 l1 x145_3).f0) ((rd_T34 l1 x145_3).f1) ((rd_T34 l1 x145_3).f2) = some r) ∧ Aside0 (kq ≤ kj95) ∧ Aside0 (Kd.R Kd.bool 4 wc w.heap.size (fun k_ => some k_ ≠ (v190 : Value).ownBlock) v154 t153) ∧ Aside0 (Kd.R Kd.bool 4 wc w.heap.size (fun k_ => some k_ ≠ (v154 : Value).ownBlock) v190 t189) ∧ Aside0 (wc.heap[gb149]? = some (.cells #[.int .i64 a0_0, .int .i64 a0_1, .int .i64 a0_2] 25 (0, 0))) ∧ Aside0 (wc.heap[gb150]? = some (.cells #[.int .i64 a2_0, .string a2_1, .int .i64 a2_2, .int .i64 a2_3, .int .i64 a2_4, .int .i64 a2_5, .int .i64 a2_6] 45 (0, 0))) ∧ Aside0 (wc.heap[gb173]? = some (.cells #[.int .i64 t165, .string t166, .int .i64 t167, .int .i64 t168, .int .i64 t169, .int .i64 t170, .int .i64 t171] 45 (0, 0))) ∧ Aside0 (wc.heap[gb193]? = some (.cells #[.bool ((rd_T34 l1 x145_3).f0), .int .i64 ((rd_T34 l1 x145_3).f1), .int .i64 ((rd_T34 l1 x145_3).f2)] 34 (0, 0))) ∧ Aside0 (Below w.heap.size w wc))
              case first =>
               have H := HC111.out
               clear HC111
               by_cases c112 : x157_95 = true
               ·
                subst c112
                have H1 : (mootlaw4_BurdenTells.j4 kj95 t153 t157 t158 t160 t162 t163 t189 (wrap64 (x25_3 + ((rd_T34 l1 x145_3).f1))) x26_3 x145_3 l1 (l1.length : Int) x145_3 a0_0 a0_1 a0_2 a2_0 a2_1 a2_2 a2_3 a2_4 a2_5 a2_6 t165 t166 t167 t168 t169 t170 t171 ((rd_T34 l1 x145_3).f0) ((rd_T34 l1 x145_3).f1) ((rd_T34 l1 x145_3).f2)) = some r := by rw [if_pos rfl] at H; exact H
                clear H
                have H := H1
                clear H1
                have H' := Aside0.mk H
                clear H
                have hnb113 := NB193_149.out
                have hnc113 := NB149_193.out
                have hnb114 := NB193_150.out
                have hnc114 := NB150_193.out
                have hnb115 := NB193_173.out
                have hnc115 := NB173_193.out
                have hcz116_0 : wc.cell? ⟨gb193, 0, none⟩ = some (.bool ((rd_T34 l1 x145_3).f0)) := (qi BK193.out 0).trans rfl
                have hcz116_1 : wc.cell? ⟨gb193, 1, none⟩ = some (.int .i64 ((rd_T34 l1 x145_3).f1)) := (qi BK193.out 1).trans rfl
                have hcz116_2 : wc.cell? ⟨gb193, 2, none⟩ = some (.int .i64 ((rd_T34 l1 x145_3).f2)) := (qi BK193.out 2).trans rfl
                have hfz116_0 := qh BK193.out 0
                have hfz116_1 := qh BK193.out 1
                have hfz116_2 := qh BK193.out 2
                go_wp2
                go_meet
                case rel => exact ⟨_, (wrap64 (x25_3 + ((rd_T34 l1 x145_3).f1))), (by first | rfl | (simp; done) | (simp [*]; done)), H', ⟨by have := HJ11.out; have := HK2.out; have := HK3.out; have := HJ95.out; first | omega | exact Nat.le_refl _⟩, ⟨by (with_reducible repeat (first | apply qk | apply qj | apply ql)); exact HO_8.out⟩, ⟨by (with_reducible repeat (first | apply qk | apply qj | apply ql)); exact HO_24.out⟩, ⟨by (with_reducible repeat (first | refine qa ?_ _ | refine qb ?_ | refine qc ?_ _)); exact Ka.out⟩, ⟨by (with_reducible repeat (first | refine qa ?_ _ | refine qb ?_ | refine qc ?_ _)); exact Kb.out⟩, ⟨by (with_reducible repeat (first | refine qa ?_ _ | refine qb ?_ | refine qc ?_ _)); exact Kc.out⟩, ⟨by (with_reducible repeat (first | refine qa ?_ _ | refine qb ?_ | refine qc ?_ _)); exact BK193.out⟩, ⟨by repeat (first | (with_reducible first | exact HB.out | apply qg | apply qe | apply qf | refine qd ?_ Ga.out | refine qd ?_ Gb.out | refine qd ?_ Gc.out | refine qd ?_ GE193.out) | exact HB.out)⟩⟩
               ·
                replace c112 := Bool.eq_false_iff.mpr c112
                subst c112
                have H1 : (mootlaw4_BurdenTells.j4 kj95 t153 t157 t158 t160 t162 t163 t189 x25_3 x26_3 x145_3 l1 (l1.length : Int) x145_3 a0_0 a0_1 a0_2 a2_0 a2_1 a2_2 a2_3 a2_4 a2_5 a2_6 t165 t166 t167 t168 t169 t170 t171 ((rd_T34 l1 x145_3).f0) ((rd_T34 l1 x145_3).f1) ((rd_T34 l1 x145_3).f2)) = some r := by rw [if_neg (show ¬ (false = true) by decide)] at H; exact H
                clear H
                have H := H1
                clear H1
                have H' := Aside0.mk H
                clear H
                go_wp2
                go_meet
                case rel => exact ⟨_, (x25_3), (by first | rfl | (simp; done) | (simp [*]; done)), H', ⟨by have := HJ11.out; have := HK2.out; have := HK3.out; have := HJ95.out; first | omega | exact Nat.le_refl _⟩, ⟨by (with_reducible repeat (first | apply qk | apply qj | apply ql)); exact HO_8.out⟩, ⟨by (with_reducible repeat (first | apply qk | apply qj | apply ql)); exact HO_24.out⟩, ⟨by (with_reducible repeat (first | refine qa ?_ _ | refine qb ?_ | refine qc ?_ _)); exact Ka.out⟩, ⟨by (with_reducible repeat (first | refine qa ?_ _ | refine qb ?_ | refine qc ?_ _)); exact Kb.out⟩, ⟨by (with_reducible repeat (first | refine qa ?_ _ | refine qb ?_ | refine qc ?_ _)); exact Kc.out⟩, ⟨by (with_reducible repeat (first | refine qa ?_ _ | refine qb ?_ | refine qc ?_ _)); exact BK193.out⟩, ⟨by repeat (first | (with_reducible first | exact HB.out | apply qg | apply qe | apply qf | refine qd ?_ Ga.out | refine qd ?_ Gb.out | refine qd ?_ Gc.out | refine qd ?_ GE193.out) | exact HB.out)⟩⟩
              case rest =>
               clear HC111
               try clear c1
               try clear p1
               try clear q1
               try clear hx1
               try clear c2
               try clear p2
               try clear c6
               try clear p6
               try clear c7
               try clear c9
               try clear c10
               try clear q10
               try clear c11
               try clear p19
               try clear q19
               try clear hx19
               try clear c26
               try clear p64
               try clear c66
               try clear c66b0
               try clear c67
               try clear c68
               try clear c69
               try clear c70
               try clear c93
               try clear c93b0
               try clear c94
               try clear c94b0
               try clear c95
               try clear c95b0
               try clear c98
               try clear c99
               try clear c100
               try clear c102
               try clear c102b0
               try clear q103
               try clear c104
               try clear c106
               try clear c107
               try clear c108
               try clear c112
               try clear c113
               try clear c114
               try clear c115
               try clear hcz101_0 hcz101_1 hcz101_2
               try clear hcz109_0 hcz109_1 hcz109_2
               try clear hcz116_0 hcz116_1 hcz116_2
               try clear hfz101_0 hfz101_1 hfz101_2
               try clear hfz109_0 hfz109_1 hfz109_2
               try clear hfz116_0 hfz116_1 hfz116_2
               try clear hx192_0
               try clear hx192_1
               try clear hx192_2
               try clear hx194_0
               try clear p1
               try clear p19
               try clear p192
               try clear p194
               try clear p2
               try clear p6
               try clear p64
               try clear q1
               try clear q10
               try clear q103
               try clear q19
               try clear q192
               try clear q194
               obtain ⟨kq, x25_110, rfl, HA, HJ110, HO_8, HO_24, Ka, Kb, Kc, BK193, HB⟩ := hcut
               cases kq with
               | zero => exact absurd HA.out (by simp [mootlaw4_BurdenTells.j4])
               | succ kj110 =>
                have H := HA.out
                clear HA
                simp only [mootlaw4_BurdenTells.j4] at H
                have HC117 := Aside0.mk H
                clear H
                go_upto_region 26 with (fail)
                go_cut [170] (fun v170 wc => ∃ (kq : Nat) (x170_116 : Bool), v170 = .bool x170_116 ∧ Aside0 (mootlaw4_BurdenTells.j5 kq t153 t157 t158 t160 t162 t163 t189 x25_110 x26_3 l1 (l1.length : Int) x145_3 x170_116 a0_0 a0_1 a0_2 a2_0 a2_1 a2_2 a2_3 a2_4 a2_5 a2_6 t165 t166 t167 t168 t169 t170 t171 ((rd_T34 l1 x145_3).f0) ((rd_T34 l1 x145_3).f1) ((rd_T34 l1 x145_3).f2) = some r) ∧ Aside0 (kq ≤ kj110) ∧ Aside0 (Kd.R Kd.bool 4 wc w.heap.size (fun k_ => some k_ ≠ (v190 : Value).ownBlock) v154 t153) ∧ Aside0 (Kd.R Kd.bool 4 wc w.heap.size (fun k_ => some k_ ≠ (v154 : Value).ownBlock) v190 t189) ∧ Aside0 (wc.heap[gb149]? = some (.cells #[.int .i64 a0_0, .int .i64 a0_1, .int .i64 a0_2] 25 (0, 0))) ∧ Aside0 (wc.heap[gb150]? = some (.cells #[.int .i64 a2_0, .string a2_1, .int .i64 a2_2, .int .i64 a2_3, .int .i64 a2_4, .int .i64 a2_5, .int .i64 a2_6] 45 (0, 0))) ∧ Aside0 (wc.heap[gb173]? = some (.cells #[.int .i64 t165, .string t166, .int .i64 t167, .int .i64 t168, .int .i64 t169, .int .i64 t170, .int .i64 t171] 45 (0, 0))) ∧ Aside0 (wc.heap[gb193]? = some (.cells #[.bool ((rd_T34 l1 x145_3).f0), .int .i64 ((rd_T34 l1 x145_3).f1), .int .i64 ((rd_T34 l1 x145_3).f2)] 34 (0, 0))) ∧ Aside0 (Below w.heap.size w wc))
                case first =>
                 have H := HC117.out
                 clear HC117
                 by_cases c118 : 0 ≤ x145_3
                 rotate_left
                 ·
                  rw [if_neg c118] at H
                  exact absurd H (by simp)
                 rw [if_pos c118] at H
                 have c118b0 : decide (0 ≤ x145_3) = true := decide_eq_true c118
                 clear c118
                 (first | rw [c118b0] | (simp only [i64_w, i32_w]; rw [c118b0]) | skip)
                 by_cases c119 : x145_3 < (t189.length : Int)
                 rotate_left
                 ·
                  rw [if_neg c119] at H
                  exact absurd H (by simp)
                 rw [if_pos c119] at H
                 have c119b0 : decide (x145_3 < (t189.length : Int)) = true := decide_eq_true c119
                 clear c119
                 obtain ⟨bq120, hbq120⟩ : ∃ b_ : Bool, b_ = (rdOf false t189 x145_3) := ⟨_, rfl⟩
                 replace H : (if bq120 = true then (mootlaw4_BurdenTells.j5 kj110 t153 t157 t158 t160 t162 t163 t189 x25_110 x26_3 l1 (l1.length : Int) x145_3 (!((rd_T34 l1 x145_3).f0)) a0_0 a0_1 a0_2 a2_0 a2_1 a2_2 a2_3 a2_4 a2_5 a2_6 t165 t166 t167 t168 t169 t170 t171 ((rd_T34 l1 x145_3).f0) ((rd_T34 l1 x145_3).f1) ((rd_T34 l1 x145_3).f2)) else (mootlaw4_BurdenTells.j5 kj110 t153 t157 t158 t160 t162 t163 t189 x25_110 x26_3 l1 (l1.length : Int) x145_3 false a0_0 a0_1 a0_2 a2_0 a2_1 a2_2 a2_3 a2_4 a2_5 a2_6 t165 t166 t167 t168 t169 t170 t171 ((rd_T34 l1 x145_3).f0) ((rd_T34 l1 x145_3).f1) ((rd_T34 l1 x145_3).f2))) = some r := by rw [← hbq120] at H; exact H
                 have Nbq120 := Aside0.mk hbq120
                 clear hbq120
                 by_cases c121 : bq120 = true
                 ·
                  subst c121
                  have H1 : (mootlaw4_BurdenTells.j5 kj110 t153 t157 t158 t160 t162 t163 t189 x25_110 x26_3 l1 (l1.length : Int) x145_3 (!((rd_T34 l1 x145_3).f0)) a0_0 a0_1 a0_2 a2_0 a2_1 a2_2 a2_3 a2_4 a2_5 a2_6 t165 t166 t167 t168 t169 t170 t171 ((rd_T34 l1 x145_3).f0) ((rd_T34 l1 x145_3).f1) ((rd_T34 l1 x145_3).f2)) = some r := by rw [if_pos rfl] at H; exact H
                  clear H
                  have H := H1
                  clear H1
                  have H' := Aside0.mk H
                  clear H
                  obtain ⟨Ao122, co122, eo122⟩ := Kd.R_slice HO_24.out
                  subst eo122
                  have p195 : 0 ≤ (x145_3 : Int) := of_decide_eq_true (by first | (with_reducible assumption) | assumption)
                  have q195 : x145_3 < (t189.length : Int) := of_decide_eq_true (by first | (with_reducible assumption) | assumption)
                  obtain ⟨ad195, e195, hx195_0⟩ := Kd.at_bool (Kd.R_reads' HO_24.out).2.2 x145_3 p195 q195
                  (try rw [← Nbq120.out] at hx195_0)
                  cases e195
                  replace p195 := eq_true p195
                  replace q195 := eq_true q195
                  have hnb123 := NB193_149.out
                  have hnc123 := NB149_193.out
                  have hnb124 := NB193_150.out
                  have hnc124 := NB150_193.out
                  have hnb125 := NB193_173.out
                  have hnc125 := NB173_193.out
                  have hcz126_0 : wc.cell? ⟨gb193, 0, none⟩ = some (.bool ((rd_T34 l1 x145_3).f0)) := (qi BK193.out 0).trans rfl
                  have hcz126_1 : wc.cell? ⟨gb193, 1, none⟩ = some (.int .i64 ((rd_T34 l1 x145_3).f1)) := (qi BK193.out 1).trans rfl
                  have hcz126_2 : wc.cell? ⟨gb193, 2, none⟩ = some (.int .i64 ((rd_T34 l1 x145_3).f2)) := (qi BK193.out 2).trans rfl
                  have hfz126_0 := qh BK193.out 0
                  have hfz126_1 := qh BK193.out 1
                  have hfz126_2 := qh BK193.out 2
                  go_wp2
                  go_meet
                  case rel => exact ⟨_, (!((rd_T34 l1 x145_3).f0)), (by first | rfl | (simp; done) | (simp [*]; done)), H', ⟨by have := HJ11.out; have := HK2.out; have := HK3.out; have := HJ95.out; have := HJ110.out; first | omega | exact Nat.le_refl _⟩, ⟨by (with_reducible repeat (first | apply qk | apply qj | apply ql)); exact HO_8.out⟩, ⟨by (with_reducible repeat (first | apply qk | apply qj | apply ql)); exact HO_24.out⟩, ⟨by (with_reducible repeat (first | refine qa ?_ _ | refine qb ?_ | refine qc ?_ _)); exact Ka.out⟩, ⟨by (with_reducible repeat (first | refine qa ?_ _ | refine qb ?_ | refine qc ?_ _)); exact Kb.out⟩, ⟨by (with_reducible repeat (first | refine qa ?_ _ | refine qb ?_ | refine qc ?_ _)); exact Kc.out⟩, ⟨by (with_reducible repeat (first | refine qa ?_ _ | refine qb ?_ | refine qc ?_ _)); exact BK193.out⟩, ⟨by repeat (first | (with_reducible first | exact HB.out | apply qg | apply qe | apply qf | refine qd ?_ Ga.out | refine qd ?_ Gb.out | refine qd ?_ Gc.out | refine qd ?_ GE193.out) | exact HB.out)⟩⟩
                 ·
                  replace c121 := Bool.eq_false_iff.mpr c121
                  subst c121
                  have H1 : (mootlaw4_BurdenTells.j5 kj110 t153 t157 t158 t160 t162 t163 t189 x25_110 x26_3 l1 (l1.length : Int) x145_3 false a0_0 a0_1 a0_2 a2_0 a2_1 a2_2 a2_3 a2_4 a2_5 a2_6 t165 t166 t167 t168 t169 t170 t171 ((rd_T34 l1 x145_3).f0) ((rd_T34 l1 x145_3).f1) ((rd_T34 l1 x145_3).f2)) = some r := by rw [if_neg (show ¬ (false = true) by decide)] at H; exact H
                  clear H
                  have H := H1
                  clear H1
                  have H' := Aside0.mk H
                  clear H
                  obtain ⟨Ao127, co127, eo127⟩ := Kd.R_slice HO_24.out
                  subst eo127
                  have p195 : 0 ≤ (x145_3 : Int) := of_decide_eq_true (by first | (with_reducible assumption) | assumption)
                  have q195 : x145_3 < (t189.length : Int) := of_decide_eq_true (by first | (with_reducible assumption) | assumption)
                  obtain ⟨ad195, e195, hx195_0⟩ := Kd.at_bool (Kd.R_reads' HO_24.out).2.2 x145_3 p195 q195
                  (try rw [← Nbq120.out] at hx195_0)
                  cases e195
                  replace p195 := eq_true p195
                  replace q195 := eq_true q195
                  go_wp2
                  go_meet
                  case rel => exact ⟨_, (false), (by first | rfl | (simp; done) | (simp [*]; done)), H', ⟨by have := HJ11.out; have := HK2.out; have := HK3.out; have := HJ95.out; have := HJ110.out; first | omega | exact Nat.le_refl _⟩, ⟨by (with_reducible repeat (first | apply qk | apply qj | apply ql)); exact HO_8.out⟩, ⟨by (with_reducible repeat (first | apply qk | apply qj | apply ql)); exact HO_24.out⟩, ⟨by (with_reducible repeat (first | refine qa ?_ _ | refine qb ?_ | refine qc ?_ _)); exact Ka.out⟩, ⟨by (with_reducible repeat (first | refine qa ?_ _ | refine qb ?_ | refine qc ?_ _)); exact Kb.out⟩, ⟨by (with_reducible repeat (first | refine qa ?_ _ | refine qb ?_ | refine qc ?_ _)); exact Kc.out⟩, ⟨by (with_reducible repeat (first | refine qa ?_ _ | refine qb ?_ | refine qc ?_ _)); exact BK193.out⟩, ⟨by repeat (first | (with_reducible first | exact HB.out | apply qg | apply qe | apply qf | refine qd ?_ Ga.out | refine qd ?_ Gb.out | refine qd ?_ Gc.out | refine qd ?_ GE193.out) | exact HB.out)⟩⟩
                case rest =>
                 clear HC117
                 try clear c1
                 try clear p1
                 try clear q1
                 try clear hx1
                 try clear c2
                 try clear p2
                 try clear c6
                 try clear p6
                 try clear c7
                 try clear c9
                 try clear c10
                 try clear q10
                 try clear c11
                 try clear c12
                 try clear q12
                 try clear p19
                 try clear q19
                 try clear hx19
                 try clear c26
                 try clear p64
                 try clear c66
                 try clear c66b0
                 try clear c67
                 try clear c68
                 try clear c69
                 try clear c70
                 try clear c93
                 try clear c93b0
                 try clear c94
                 try clear c94b0
                 try clear c95
                 try clear c95b0
                 try clear c98
                 try clear c99
                 try clear c100
                 try clear c102
                 try clear c102b0
                 try clear q103
                 try clear c104
                 try clear c106
                 try clear c107
                 try clear c108
                 try clear c112
                 try clear c113
                 try clear c114
                 try clear c115
                 try clear c118
                 try clear c118b0
                 try clear c119
                 try clear c119b0
                 try clear q120
                 try clear c121
                 try clear c123
                 try clear c124
                 try clear c125
                 try clear hcz101_0 hcz101_1 hcz101_2
                 try clear hcz109_0 hcz109_1 hcz109_2
                 try clear hcz116_0 hcz116_1 hcz116_2
                 try clear hcz126_0 hcz126_1 hcz126_2
                 try clear hfz101_0 hfz101_1 hfz101_2
                 try clear hfz109_0 hfz109_1 hfz109_2
                 try clear hfz116_0 hfz116_1 hfz116_2
                 try clear hfz126_0 hfz126_1 hfz126_2
                 try clear hx192_0
                 try clear hx192_1
                 try clear hx192_2
                 try clear hx194_0
                 try clear hx195_0
                 try clear p1
                 try clear p19
                 try clear p192
                 try clear p194
                 try clear p195
                 try clear p2
                 try clear p6
                 try clear p64
                 try clear q1
                 try clear q10
                 try clear q103
                 try clear q19
                 try clear q192
                 try clear q194
                 try clear q195
                 obtain ⟨kq, x170_116, rfl, HA, HJ116, HO_8, HO_24, Ka, Kb, Kc, BK193, HB⟩ := hcut
                 cases kq with
                 | zero => exact absurd HA.out (by simp [mootlaw4_BurdenTells.j5])
                 | succ kj116 =>
                  have H := HA.out
                  clear HA
                  simp only [mootlaw4_BurdenTells.j5] at H
                  by_cases c128 : x170_116 = true
                  ·
                   subst c128
                   have H1 : (mootlaw4_BurdenTells.l1 kj116 t153 t157 t158 t160 t162 t163 t189 x25_110 (wrap64 (x26_3 + ((rd_T34 l1 x145_3).f1))) l1 (l1.length : Int) (wrap64 (x145_3 + 1)) a0_0 a0_1 a0_2 a2_0 a2_1 a2_2 a2_3 a2_4 a2_5 a2_6 t165 t166 t167 t168 t169 t170 t171) = some r := by rw [if_pos rfl] at H; exact H
                   clear H
                   have H := H1
                   clear H1
                   have H' := Aside0.mk H
                   clear H
                   have hnb129 := NB193_149.out
                   have hnc129 := NB149_193.out
                   have hnb130 := NB193_150.out
                   have hnc130 := NB150_193.out
                   have hnb131 := NB193_173.out
                   have hnc131 := NB173_193.out
                   have hcz132_0 : wc.cell? ⟨gb193, 0, none⟩ = some (.bool ((rd_T34 l1 x145_3).f0)) := (qi BK193.out 0).trans rfl
                   have hcz132_1 : wc.cell? ⟨gb193, 1, none⟩ = some (.int .i64 ((rd_T34 l1 x145_3).f1)) := (qi BK193.out 1).trans rfl
                   have hcz132_2 : wc.cell? ⟨gb193, 2, none⟩ = some (.int .i64 ((rd_T34 l1 x145_3).f2)) := (qi BK193.out 2).trans rfl
                   have hfz132_0 := qh BK193.out 0
                   have hfz132_1 := qh BK193.out 1
                   have hfz132_2 := qh BK193.out 2
                   go_wp2
                   go_roundg kj116
                   case measure => have := HJ11.out; have := HK2.out; have := HK3.out; have := HJ95.out; have := HJ110.out; have := HJ116.out; omega
                   case rel => exact ⟨(x25_110), (wrap64 (x26_3 + ((rd_T34 l1 x145_3).f1))), (wrap64 (x145_3 + 1)), (by first | rfl | (simp; done) | (simp [*]; done)), (by first | rfl | (simp; done) | (simp [*]; done)), (by first | rfl | (simp; done) | (simp [*]; done)), H', ⟨by have := HJ11.out; have := HK2.out; have := HK3.out; have := HJ95.out; have := HJ110.out; have := HJ116.out; omega⟩, ⟨by (with_reducible repeat (first | apply qk | apply qj | apply ql)); exact HO_8.out⟩, ⟨by (with_reducible repeat (first | apply qk | apply qj | apply ql)); exact HO_24.out⟩, ⟨by (with_reducible repeat (first | refine qa ?_ _ | refine qb ?_ | refine qc ?_ _)); exact Ka.out⟩, ⟨by (with_reducible repeat (first | refine qa ?_ _ | refine qb ?_ | refine qc ?_ _)); exact Kb.out⟩, ⟨by (with_reducible repeat (first | refine qa ?_ _ | refine qb ?_ | refine qc ?_ _)); exact Kc.out⟩, ⟨by repeat (first | (with_reducible first | exact HB.out | apply qg | apply qe | apply qf | refine qd ?_ Ga.out | refine qd ?_ Gb.out | refine qd ?_ Gc.out | refine qd ?_ GE193.out) | exact HB.out)⟩⟩
                  ·
                   replace c128 := Bool.eq_false_iff.mpr c128
                   subst c128
                   have H1 : (mootlaw4_BurdenTells.l1 kj116 t153 t157 t158 t160 t162 t163 t189 x25_110 x26_3 l1 (l1.length : Int) (wrap64 (x145_3 + 1)) a0_0 a0_1 a0_2 a2_0 a2_1 a2_2 a2_3 a2_4 a2_5 a2_6 t165 t166 t167 t168 t169 t170 t171) = some r := by rw [if_neg (show ¬ (false = true) by decide)] at H; exact H
                   clear H
                   have H := H1
                   clear H1
                   have H' := Aside0.mk H
                   clear H
                   go_wp2
                   go_roundg kj116
                   case measure => have := HJ11.out; have := HK2.out; have := HK3.out; have := HJ95.out; have := HJ110.out; have := HJ116.out; omega
                   case rel => exact ⟨(x25_110), (x26_3), (wrap64 (x145_3 + 1)), (by first | rfl | (simp; done) | (simp [*]; done)), (by first | rfl | (simp; done) | (simp [*]; done)), (by first | rfl | (simp; done) | (simp [*]; done)), H', ⟨by have := HJ11.out; have := HK2.out; have := HK3.out; have := HJ95.out; have := HJ110.out; have := HJ116.out; omega⟩, ⟨by (with_reducible repeat (first | apply qk | apply qj | apply ql)); exact HO_8.out⟩, ⟨by (with_reducible repeat (first | apply qk | apply qj | apply ql)); exact HO_24.out⟩, ⟨by (with_reducible repeat (first | refine qa ?_ _ | refine qb ?_ | refine qc ?_ _)); exact Ka.out⟩, ⟨by (with_reducible repeat (first | refine qa ?_ _ | refine qb ?_ | refine qc ?_ _)); exact Kb.out⟩, ⟨by (with_reducible repeat (first | refine qa ?_ _ | refine qb ?_ | refine qc ?_ _)); exact Kc.out⟩, ⟨by repeat (first | (with_reducible first | exact HB.out | apply qg | apply qe | apply qf | refine qd ?_ Ga.out | refine qd ?_ Gb.out | refine qd ?_ Gc.out | refine qd ?_ GE193.out) | exact HB.out)⟩⟩
           · as_aux_lemma =>
            rw [if_neg c93] at H
            have c93b0 : decide (x145_3 < (l1.length : Int)) = false := decide_eq_false c93
            clear c93
            have HC133 := Aside0.mk H
            clear H
            go_upto_region 29 with (fail)
            go_cut [198] (fun v198 wc => ∃ (kq : Nat) (x198_132 : Bool), v198 = .bool x198_132 ∧ Aside0 (mootlaw4_BurdenTells.j6 kq t160 t162 t163 x198_132 a0_0 a0_1 a0_2 a2_0 a2_1 a2_2 a2_3 a2_4 a2_5 a2_6 t165 t166 t167 t168 t169 t170 t171 = some r) ∧ Aside0 (kq ≤ k3) ∧ Aside0 (wc.heap[gb149]? = some (.cells #[.int .i64 a0_0, .int .i64 a0_1, .int .i64 a0_2] 25 (0, 0))) ∧ Aside0 (wc.heap[gb150]? = some (.cells #[.int .i64 a2_0, .string a2_1, .int .i64 a2_2, .int .i64 a2_3, .int .i64 a2_4, .int .i64 a2_5, .int .i64 a2_6] 45 (0, 0))) ∧ Aside0 (wc.heap[gb173]? = some (.cells #[.int .i64 t165, .string t166, .int .i64 t167, .int .i64 t168, .int .i64 t169, .int .i64 t170, .int .i64 t171] 45 (0, 0))) ∧ Aside0 (Below w.heap.size w wc))
            case first =>
             have H := HC133.out
             clear HC133
             replace H := Option.bind_eq_some_iff.mp H
             obtain ⟨t196, A1340, H⟩ := H
             replace H : (if t196 = true then (if t157 = x25_3 then (if t158 = x26_3 then ((mootref4_Proof.f x25_3 x26_3 a0_2).bind fun t197 => (mootlaw4_BurdenTells.j6 k3 t160 t162 t163 (t160 != t197) a0_0 a0_1 a0_2 a2_0 a2_1 a2_2 a2_3 a2_4 a2_5 a2_6 t165 t166 t167 t168 t169 t170 t171)) else (mootlaw4_BurdenTells.j6 k3 t160 t162 t163 true a0_0 a0_1 a0_2 a2_0 a2_1 a2_2 a2_3 a2_4 a2_5 a2_6 t165 t166 t167 t168 t169 t170 t171)) else (mootlaw4_BurdenTells.j6 k3 t160 t162 t163 true a0_0 a0_1 a0_2 a2_0 a2_1 a2_2 a2_3 a2_4 a2_5 a2_6 t165 t166 t167 t168 t169 t170 t171)) else (mootlaw4_BurdenTells.j6 k3 t160 t162 t163 true a0_0 a0_1 a0_2 a2_0 a2_1 a2_2 a2_3 a2_4 a2_5 a2_6 t165 t166 t167 t168 t169 t170 t171)) = some r := H
             have A134 := Aside0.mk A1340
             clear A1340
             by_cases c135 : t196 = true
             ·
              subst c135
              have H1 : (if t157 = x25_3 then (if t158 = x26_3 then ((mootref4_Proof.f x25_3 x26_3 a0_2).bind fun t197 => (mootlaw4_BurdenTells.j6 k3 t160 t162 t163 (t160 != t197) a0_0 a0_1 a0_2 a2_0 a2_1 a2_2 a2_3 a2_4 a2_5 a2_6 t165 t166 t167 t168 t169 t170 t171)) else (mootlaw4_BurdenTells.j6 k3 t160 t162 t163 true a0_0 a0_1 a0_2 a2_0 a2_1 a2_2 a2_3 a2_4 a2_5 a2_6 t165 t166 t167 t168 t169 t170 t171)) else (mootlaw4_BurdenTells.j6 k3 t160 t162 t163 true a0_0 a0_1 a0_2 a2_0 a2_1 a2_2 a2_3 a2_4 a2_5 a2_6 t165 t166 t167 t168 t169 t170 t171)) = some r := by rw [if_pos rfl] at H; exact H
              clear H
              have H := H1
              clear H1
              by_cases c136 : t157 = x25_3
              ·
               rw [if_pos c136] at H
               have c136b0 : (t157 == x25_3) = true := beq_iff_eq.mpr c136
               have c136b1 : (t157 != x25_3) = false := bne_eq_false_iff_eq.mpr c136
               clear c136
               (first | rw [c136b0] | (simp only [i64_w, i32_w]; rw [c136b0]) | skip)
               by_cases c137 : t158 = x26_3
               ·
                rw [if_pos c137] at H
                have c137b0 : (t158 == x26_3) = true := beq_iff_eq.mpr c137
                have c137b1 : (t158 != x26_3) = false := bne_eq_false_iff_eq.mpr c137
                clear c137
                replace H := Option.bind_eq_some_iff.mp H
                obtain ⟨t197, A1380, H⟩ := H
                replace H : (mootlaw4_BurdenTells.j6 k3 t160 t162 t163 (t160 != t197) a0_0 a0_1 a0_2 a2_0 a2_1 a2_2 a2_3 a2_4 a2_5 a2_6 t165 t166 t167 t168 t169 t170 t171) = some r := H
                have A138 := Aside0.mk A1380
                clear A1380
                have H' := Aside0.mk H
                clear H
                obtain ⟨Ao139, co139, eo139⟩ := Kd.R_slice HO_8.out
                subst eo139
                obtain ⟨Ao140, co140, eo140⟩ := Kd.R_slice HO_24.out
                subst eo140
                go_wp2_with (first | ((with_reducible refine gate_callee (f := 27) rfl ?_); refine goesL_ (some 178) rfl rfl Try.func27 (by kernel_rfl) rfl #[.slice Ao139 t153.length co139, .slice Ao140 t189.length co140] rfl (by (try simp only [List.map_toArray, List.map_cons, List.map_nil]); first | done | rfl | (simp only [List.length_drop, List.length_take]; rfl)) ?_; (with_reducible refine (slices_Equal_bool_bool.calls k3 _ _ t153 _ _ t189 true _ ?side1 ?side2 ?side3 ?side4 A134.out).mono ?_); (case side1 => repeat (first | exact (Kd.R_reads' HO_8.out).2.2 | (with_reducible refine Kd.C_alloc ?_ _) | (with_reducible refine Kd.C_drewN ?_ _) | (with_reducible refine Kd.C_drew ?_))); (case side2 => exact (Kd.R_reads' HO_8.out).2.1); (case side3 => repeat (first | exact (Kd.R_reads' HO_24.out).2.2 | (with_reducible refine Kd.C_alloc ?_ _) | (with_reducible refine Kd.C_drewN ?_ _) | (with_reducible refine Kd.C_drew ?_))); (case side4 => exact (Kd.R_reads' HO_24.out).2.1); rintro e w' ⟨rfl, ⟨nd, rfl⟩⟩; refine ⟨_, rfl, ?_⟩; have hnb141 := Ne.out; have hnc141 := Nf.out; have hnb142 := Na.out; have hnc142 := Nc.out; have hcz143_0 : wr.cell? ⟨gb149, 0, none⟩ = some (.int .i64 a0_0) := (qi Ka.out 0).trans rfl; have hcz143_1 : wr.cell? ⟨gb149, 1, none⟩ = some (.int .i64 a0_1) := (qi Ka.out 1).trans rfl; have hcz143_2 : wr.cell? ⟨gb149, 2, none⟩ = some (.int .i64 a0_2) := (qi Ka.out 2).trans rfl; have hfz143_0 := qh Ka.out 0; have hfz143_1 := qh Ka.out 1; have hfz143_2 := qh Ka.out 2) | (go_at_call 28; (with_reducible refine (mootref4_Proof.calls x25_3 x26_3 a0_2 t197 _ A138.out).mono ?_); rintro e w144 ⟨rfl, hb⟩; have n0_ := Aside0.mk (Kd.R_below (by (with_reducible repeat (first | apply qk | apply qj | apply ql)); exact HO_8.out) hb); have n1_ := Aside0.mk (Kd.R_below (by (with_reducible repeat (first | apply qk | apply qj | apply ql)); exact HO_24.out) hb); have n2_ := Aside0.mk (blk_below (g := gb149) (o := .cells #[.int .i64 a0_0, .int .i64 a0_1, .int .i64 a0_2] 25 (0, 0)) (by (with_reducible repeat (first | refine qa ?_ _ | refine qb ?_ | refine qc ?_ _)); exact Ka.out) hb); have n3_ := Aside0.mk (blk_below (g := gb150) (o := .cells #[.int .i64 a2_0, .string a2_1, .int .i64 a2_2, .int .i64 a2_3, .int .i64 a2_4, .int .i64 a2_5, .int .i64 a2_6] 45 (0, 0)) (by (with_reducible repeat (first | refine qa ?_ _ | refine qb ?_ | refine qc ?_ _)); exact Kb.out) hb); have n4_ := Aside0.mk (blk_below (g := gb173) (o := .cells #[.int .i64 t165, .string t166, .int .i64 t167, .int .i64 t168, .int .i64 t169, .int .i64 t170, .int .i64 t171] 45 (0, 0)) (by (with_reducible repeat (first | refine qa ?_ _ | refine qb ?_ | refine qc ?_ _)); exact Kc.out) hb); have n5_ := Aside0.mk (below_step (by repeat (first | (with_reducible first | exact HB.out | apply qg | apply qe | apply qf | refine qd ?_ Ga.out | refine qd ?_ Gb.out | refine qd ?_ Gc.out) | exact HB.out)) hb); clear HO_8; clear HO_24; clear Ka; clear Kb; clear Kc; clear HB; have HO_8 := n0_; have HO_24 := n1_; have Ka := n2_; have Kb := n3_; have Kc := n4_; have HB := n5_; clear n0_ n1_ n2_ n3_ n4_ n5_; (try clear hb); (try clear hb2); (try clear hk); (try clear hi)))
                go_meet
                case rel => exact ⟨_, ((t160 != t197)), (by first | rfl | (simp; done) | (simp [*]; done)), H', ⟨by have := HJ11.out; have := HK2.out; have := HK3.out; first | omega | exact Nat.le_refl _⟩, ⟨by (with_reducible repeat (first | refine qa ?_ _ | refine qb ?_ | refine qc ?_ _)); exact Ka.out⟩, ⟨by (with_reducible repeat (first | refine qa ?_ _ | refine qb ?_ | refine qc ?_ _)); exact Kb.out⟩, ⟨by (with_reducible repeat (first | refine qa ?_ _ | refine qb ?_ | refine qc ?_ _)); exact Kc.out⟩, ⟨by repeat (first | (with_reducible first | exact HB.out | apply qg | apply qe | apply qf | refine qd ?_ Ga.out | refine qd ?_ Gb.out | refine qd ?_ Gc.out) | exact HB.out)⟩⟩
               ·
                rw [if_neg c137] at H
                have c137b0 : (t158 == x26_3) = false := beq_eq_false_iff_ne.mpr c137
                have c137b1 : (t158 != x26_3) = true := bne_iff_ne.mpr c137
                have H' := Aside0.mk H
                clear H
                obtain ⟨Ao145, co145, eo145⟩ := Kd.R_slice HO_8.out
                subst eo145
                obtain ⟨Ao146, co146, eo146⟩ := Kd.R_slice HO_24.out
                subst eo146
                go_wp2_with (first | ((with_reducible refine gate_callee (f := 27) rfl ?_); refine goesL_ (some 178) rfl rfl Try.func27 (by kernel_rfl) rfl #[.slice Ao145 t153.length co145, .slice Ao146 t189.length co146] rfl (by (try simp only [List.map_toArray, List.map_cons, List.map_nil]); first | done | rfl | (simp only [List.length_drop, List.length_take]; rfl)) ?_; (with_reducible refine (slices_Equal_bool_bool.calls k3 _ _ t153 _ _ t189 true _ ?side1 ?side2 ?side3 ?side4 A134.out).mono ?_); (case side1 => repeat (first | exact (Kd.R_reads' HO_8.out).2.2 | (with_reducible refine Kd.C_alloc ?_ _) | (with_reducible refine Kd.C_drewN ?_ _) | (with_reducible refine Kd.C_drew ?_))); (case side2 => exact (Kd.R_reads' HO_8.out).2.1); (case side3 => repeat (first | exact (Kd.R_reads' HO_24.out).2.2 | (with_reducible refine Kd.C_alloc ?_ _) | (with_reducible refine Kd.C_drewN ?_ _) | (with_reducible refine Kd.C_drew ?_))); (case side4 => exact (Kd.R_reads' HO_24.out).2.1); rintro e w' ⟨rfl, ⟨nd, rfl⟩⟩; refine ⟨_, rfl, ?_⟩))
                go_meet
                case rel => exact ⟨_, (true), (by first | rfl | (simp; done) | (simp [*]; done)), H', ⟨by have := HJ11.out; have := HK2.out; have := HK3.out; first | omega | exact Nat.le_refl _⟩, ⟨by (with_reducible repeat (first | refine qa ?_ _ | refine qb ?_ | refine qc ?_ _)); exact Ka.out⟩, ⟨by (with_reducible repeat (first | refine qa ?_ _ | refine qb ?_ | refine qc ?_ _)); exact Kb.out⟩, ⟨by (with_reducible repeat (first | refine qa ?_ _ | refine qb ?_ | refine qc ?_ _)); exact Kc.out⟩, ⟨by repeat (first | (with_reducible first | exact HB.out | apply qg | apply qe | apply qf | refine qd ?_ Ga.out | refine qd ?_ Gb.out | refine qd ?_ Gc.out) | exact HB.out)⟩⟩
              ·
               rw [if_neg c136] at H
               have c136b0 : (t157 == x25_3) = false := beq_eq_false_iff_ne.mpr c136
               have c136b1 : (t157 != x25_3) = true := bne_iff_ne.mpr c136
               (first | rw [c136b0] | (simp only [i64_w, i32_w]; rw [c136b0]) | skip)
               have H' := Aside0.mk H
               clear H
               obtain ⟨Ao147, co147, eo147⟩ := Kd.R_slice HO_8.out
               subst eo147
               obtain ⟨Ao148, co148, eo148⟩ := Kd.R_slice HO_24.out
               subst eo148
               go_wp2_with (first | ((with_reducible refine gate_callee (f := 27) rfl ?_); refine goesL_ (some 178) rfl rfl Try.func27 (by kernel_rfl) rfl #[.slice Ao147 t153.length co147, .slice Ao148 t189.length co148] rfl (by (try simp only [List.map_toArray, List.map_cons, List.map_nil]); first | done | rfl | (simp only [List.length_drop, List.length_take]; rfl)) ?_; (with_reducible refine (slices_Equal_bool_bool.calls k3 _ _ t153 _ _ t189 true _ ?side1 ?side2 ?side3 ?side4 A134.out).mono ?_); (case side1 => repeat (first | exact (Kd.R_reads' HO_8.out).2.2 | (with_reducible refine Kd.C_alloc ?_ _) | (with_reducible refine Kd.C_drewN ?_ _) | (with_reducible refine Kd.C_drew ?_))); (case side2 => exact (Kd.R_reads' HO_8.out).2.1); (case side3 => repeat (first | exact (Kd.R_reads' HO_24.out).2.2 | (with_reducible refine Kd.C_alloc ?_ _) | (with_reducible refine Kd.C_drewN ?_ _) | (with_reducible refine Kd.C_drew ?_))); (case side4 => exact (Kd.R_reads' HO_24.out).2.1); rintro e w' ⟨rfl, ⟨nd, rfl⟩⟩; refine ⟨_, rfl, ?_⟩))
               go_meet
               case rel => exact ⟨_, (true), (by first | rfl | (simp; done) | (simp [*]; done)), H', ⟨by have := HJ11.out; have := HK2.out; have := HK3.out; first | omega | exact Nat.le_refl _⟩, ⟨by (with_reducible repeat (first | refine qa ?_ _ | refine qb ?_ | refine qc ?_ _)); exact Ka.out⟩, ⟨by (with_reducible repeat (first | refine qa ?_ _ | refine qb ?_ | refine qc ?_ _)); exact Kb.out⟩, ⟨by (with_reducible repeat (first | refine qa ?_ _ | refine qb ?_ | refine qc ?_ _)); exact Kc.out⟩, ⟨by repeat (first | (with_reducible first | exact HB.out | apply qg | apply qe | apply qf | refine qd ?_ Ga.out | refine qd ?_ Gb.out | refine qd ?_ Gc.out) | exact HB.out)⟩⟩
             ·
              replace c135 := Bool.eq_false_iff.mpr c135
              subst c135
              have H1 : (mootlaw4_BurdenTells.j6 k3 t160 t162 t163 true a0_0 a0_1 a0_2 a2_0 a2_1 a2_2 a2_3 a2_4 a2_5 a2_6 t165 t166 t167 t168 t169 t170 t171) = some r := by rw [if_neg (show ¬ (false = true) by decide)] at H; exact H
              clear H
              have H := H1
              clear H1
              have H' := Aside0.mk H
              clear H
              obtain ⟨Ao149, co149, eo149⟩ := Kd.R_slice HO_8.out
              subst eo149
              obtain ⟨Ao150, co150, eo150⟩ := Kd.R_slice HO_24.out
              subst eo150
              go_wp2_with (first | ((with_reducible refine gate_callee (f := 27) rfl ?_); refine goesL_ (some 178) rfl rfl Try.func27 (by kernel_rfl) rfl #[.slice Ao149 t153.length co149, .slice Ao150 t189.length co150] rfl (by (try simp only [List.map_toArray, List.map_cons, List.map_nil]); first | done | rfl | (simp only [List.length_drop, List.length_take]; rfl)) ?_; (with_reducible refine (slices_Equal_bool_bool.calls k3 _ _ t153 _ _ t189 false _ ?side1 ?side2 ?side3 ?side4 A134.out).mono ?_); (case side1 => repeat (first | exact (Kd.R_reads' HO_8.out).2.2 | (with_reducible refine Kd.C_alloc ?_ _) | (with_reducible refine Kd.C_drewN ?_ _) | (with_reducible refine Kd.C_drew ?_))); (case side2 => exact (Kd.R_reads' HO_8.out).2.1); (case side3 => repeat (first | exact (Kd.R_reads' HO_24.out).2.2 | (with_reducible refine Kd.C_alloc ?_ _) | (with_reducible refine Kd.C_drewN ?_ _) | (with_reducible refine Kd.C_drew ?_))); (case side4 => exact (Kd.R_reads' HO_24.out).2.1); rintro e w' ⟨rfl, ⟨nd, rfl⟩⟩; refine ⟨_, rfl, ?_⟩))
              go_meet
              case rel => exact ⟨_, (true), (by first | rfl | (simp; done) | (simp [*]; done)), H', ⟨by have := HJ11.out; have := HK2.out; have := HK3.out; first | omega | exact Nat.le_refl _⟩, ⟨by (with_reducible repeat (first | refine qa ?_ _ | refine qb ?_ | refine qc ?_ _)); exact Ka.out⟩, ⟨by (with_reducible repeat (first | refine qa ?_ _ | refine qb ?_ | refine qc ?_ _)); exact Kb.out⟩, ⟨by (with_reducible repeat (first | refine qa ?_ _ | refine qb ?_ | refine qc ?_ _)); exact Kc.out⟩, ⟨by repeat (first | (with_reducible first | exact HB.out | apply qg | apply qe | apply qf | refine qd ?_ Ga.out | refine qd ?_ Gb.out | refine qd ?_ Gc.out) | exact HB.out)⟩⟩
            case rest =>
             clear HC133
             try clear c1
             try clear p1
             try clear q1
             try clear hx1
             try clear c2
             try clear p2
             try clear c6
             try clear p6
             try clear c7
             try clear c9
             try clear c10
             try clear q10
             try clear c11
             try clear c12
             try clear q12
             try clear c13
             try clear c14
             try clear p19
             try clear q19
             try clear hx19
             try clear c26
             try clear c27
             try clear p64
             try clear c66
             try clear c66b0
             try clear c67
             try clear c68
             try clear c69
             try clear c70
             try clear c93
             try clear c93b0
             try clear c94
             try clear c94b0
             try clear c95
             try clear c95b0
             try clear c98
             try clear c99
             try clear c100
             try clear c102
             try clear c102b0
             try clear q103
             try clear c104
             try clear c106
             try clear c107
             try clear c108
             try clear c112
             try clear c113
             try clear c114
             try clear c115
             try clear c118
             try clear c118b0
             try clear c119
             try clear c119b0
             try clear q120
             try clear c121
             try clear c123
             try clear c124
             try clear c125
             try clear c128
             try clear c129
             try clear c130
             try clear c131
             try clear c135
             try clear c136
             try clear c136b0 c136b1
             try clear c137
             try clear c137b0 c137b1
             try clear c141
             try clear c142
             try clear hcz101_0 hcz101_1 hcz101_2
             try clear hcz109_0 hcz109_1 hcz109_2
             try clear hcz116_0 hcz116_1 hcz116_2
             try clear hcz126_0 hcz126_1 hcz126_2
             try clear hcz132_0 hcz132_1 hcz132_2
             try clear hcz143_0 hcz143_1 hcz143_2
             try clear hfz101_0 hfz101_1 hfz101_2
             try clear hfz109_0 hfz109_1 hfz109_2
             try clear hfz116_0 hfz116_1 hfz116_2
             try clear hfz126_0 hfz126_1 hfz126_2
             try clear hfz132_0 hfz132_1 hfz132_2
             try clear hfz143_0 hfz143_1 hfz143_2
             try clear hx192_0
             try clear hx192_1
             try clear hx192_2
             try clear hx194_0
             try clear hx195_0
             try clear p1
             try clear p19
             try clear p192
             try clear p194
             try clear p195
             try clear p2
             try clear p6
             try clear p64
             try clear q1
             try clear q10
             try clear q103
             try clear q12
             try clear q120
             try clear q19
             try clear q192
             try clear q194
             try clear q195
             obtain ⟨kq, x198_132, rfl, HA, HJ132, Ka, Kb, Kc, HB⟩ := hcut
             cases kq with
             | zero => exact absurd HA.out (by simp [mootlaw4_BurdenTells.j6])
             | succ kj132 =>
              have H := HA.out
              clear HA
              simp only [mootlaw4_BurdenTells.j6] at H
              by_cases c151 : x198_132 = true
              ·
               subst c151
               have H1 : (some false) = some r := by rw [if_pos rfl] at H; exact H
               clear H
               have H := H1
               clear H1
               obtain rfl := Option.some.inj H
               go_wp2
               go_ret
               exact ⟨by first | rfl | (simp [errW_none, errW_some] <;> rfl) | (simp [*, errW_none, errW_some] <;> rfl), by repeat (first | (with_reducible first | exact HB.out | apply qg | apply qe | apply qf | refine qd ?_ Ga.out | refine qd ?_ Gb.out | refine qd ?_ Gc.out) | exact HB.out)⟩
              ·
               replace c151 := Bool.eq_false_iff.mpr c151
               subst c151
               have H1 : (if t160 = 2 then (if a0_0 = 2 then (mootlaw4_BurdenTells.j7 kj132 t162 t163 (a0_1 == 2) 3 a2_0 a2_1 a2_2 a2_3 a2_4 a2_5 a2_6 t165 t166 t167 t168 t169 t170 t171) else (mootlaw4_BurdenTells.j7 kj132 t162 t163 (a0_0 == 1) 2 a2_0 a2_1 a2_2 a2_3 a2_4 a2_5 a2_6 t165 t166 t167 t168 t169 t170 t171)) else (mootlaw4_BurdenTells.j7 kj132 t162 t163 (t160 == 1) 1 a2_0 a2_1 a2_2 a2_3 a2_4 a2_5 a2_6 t165 t166 t167 t168 t169 t170 t171)) = some r := by rw [if_neg (show ¬ (false = true) by decide)] at H; exact H
               clear H
               have H := H1
               clear H1
               have HC152 := Aside0.mk H
               clear H
               go_upto_if 202 with (fail)
               go_cut [29, 30] (fun v29 v30 wc => ∃ (kq : Nat) (x29_151 : Bool) (x30_151 : Int), v29 = .bool x29_151 ∧ v30 = .int .i64 x30_151 ∧ Aside0 (mootlaw4_BurdenTells.j7 kq t162 t163 x29_151 x30_151 a2_0 a2_1 a2_2 a2_3 a2_4 a2_5 a2_6 t165 t166 t167 t168 t169 t170 t171 = some r) ∧ Aside0 (kq ≤ kj132) ∧ Aside0 (wc.heap[gb149]? = some (.cells #[.int .i64 a0_0, .int .i64 a0_1, .int .i64 a0_2] 25 (0, 0))) ∧ Aside0 (wc.heap[gb150]? = some (.cells #[.int .i64 a2_0, .string a2_1, .int .i64 a2_2, .int .i64 a2_3, .int .i64 a2_4, .int .i64 a2_5, .int .i64 a2_6] 45 (0, 0))) ∧ Aside0 (wc.heap[gb173]? = some (.cells #[.int .i64 t165, .string t166, .int .i64 t167, .int .i64 t168, .int .i64 t169, .int .i64 t170, .int .i64 t171] 45 (0, 0))) ∧ Aside0 (Below w.heap.size w wc))
               case first =>
                have H := HC152.out
                clear HC152
                by_cases c153 : t160 = 2
                ·
                 rw [if_pos c153] at H
                 have c153b0 : (t160 == 2) = true := beq_iff_eq.mpr c153
                 have c153b1 : (t160 != 2) = false := bne_eq_false_iff_eq.mpr c153
                 clear c153
                 (first | rw [c153b0] | (simp only [i64_w, i32_w]; rw [c153b0]) | skip)
                 by_cases c154 : a0_0 = 2
                 ·
                  rw [if_pos c154] at H
                  have c154b0 : (a0_0 == 2) = true := beq_iff_eq.mpr c154
                  have c154b1 : (a0_0 != 2) = false := bne_eq_false_iff_eq.mpr c154
                  clear c154
                  have H' := Aside0.mk H
                  clear H
                  have hnb155 := Ne.out
                  have hnc155 := Nf.out
                  have hnb156 := Na.out
                  have hnc156 := Nc.out
                  have hcz157_0 : wc.cell? ⟨gb149, 0, none⟩ = some (.int .i64 a0_0) := (qi Ka.out 0).trans rfl
                  have hcz157_1 : wc.cell? ⟨gb149, 1, none⟩ = some (.int .i64 a0_1) := (qi Ka.out 1).trans rfl
                  have hcz157_2 : wc.cell? ⟨gb149, 2, none⟩ = some (.int .i64 a0_2) := (qi Ka.out 2).trans rfl
                  have hfz157_0 := qh Ka.out 0
                  have hfz157_1 := qh Ka.out 1
                  have hfz157_2 := qh Ka.out 2
                  go_wp2
                  go_meet
                  case rel => exact ⟨_, ((a0_1 == 2)), (3), (by first | rfl | (simp; done) | (simp [*]; done)), (by first | rfl | (simp; done) | (simp [*]; done)), H', ⟨by have := HJ11.out; have := HK2.out; have := HK3.out; have := HJ132.out; first | omega | exact Nat.le_refl _⟩, ⟨by (with_reducible repeat (first | refine qa ?_ _ | refine qb ?_ | refine qc ?_ _)); exact Ka.out⟩, ⟨by (with_reducible repeat (first | refine qa ?_ _ | refine qb ?_ | refine qc ?_ _)); exact Kb.out⟩, ⟨by (with_reducible repeat (first | refine qa ?_ _ | refine qb ?_ | refine qc ?_ _)); exact Kc.out⟩, ⟨by repeat (first | (with_reducible first | exact HB.out | apply qg | apply qe | apply qf | refine qd ?_ Ga.out | refine qd ?_ Gb.out | refine qd ?_ Gc.out) | exact HB.out)⟩⟩
                 ·
                  rw [if_neg c154] at H
                  have c154b0 : (a0_0 == 2) = false := beq_eq_false_iff_ne.mpr c154
                  have c154b1 : (a0_0 != 2) = true := bne_iff_ne.mpr c154
                  have H' := Aside0.mk H
                  clear H
                  have hnb158 := Ne.out
                  have hnc158 := Nf.out
                  have hnb159 := Na.out
                  have hnc159 := Nc.out
                  have hcz160_0 : wc.cell? ⟨gb149, 0, none⟩ = some (.int .i64 a0_0) := (qi Ka.out 0).trans rfl
                  have hcz160_1 : wc.cell? ⟨gb149, 1, none⟩ = some (.int .i64 a0_1) := (qi Ka.out 1).trans rfl
                  have hcz160_2 : wc.cell? ⟨gb149, 2, none⟩ = some (.int .i64 a0_2) := (qi Ka.out 2).trans rfl
                  have hfz160_0 := qh Ka.out 0
                  have hfz160_1 := qh Ka.out 1
                  have hfz160_2 := qh Ka.out 2
                  go_wp2
                  go_meet
                  case rel => exact ⟨_, ((a0_0 == 1)), (2), (by first | rfl | (simp; done) | (simp [*]; done)), (by first | rfl | (simp; done) | (simp [*]; done)), H', ⟨by have := HJ11.out; have := HK2.out; have := HK3.out; have := HJ132.out; first | omega | exact Nat.le_refl _⟩, ⟨by (with_reducible repeat (first | refine qa ?_ _ | refine qb ?_ | refine qc ?_ _)); exact Ka.out⟩, ⟨by (with_reducible repeat (first | refine qa ?_ _ | refine qb ?_ | refine qc ?_ _)); exact Kb.out⟩, ⟨by (with_reducible repeat (first | refine qa ?_ _ | refine qb ?_ | refine qc ?_ _)); exact Kc.out⟩, ⟨by repeat (first | (with_reducible first | exact HB.out | apply qg | apply qe | apply qf | refine qd ?_ Ga.out | refine qd ?_ Gb.out | refine qd ?_ Gc.out) | exact HB.out)⟩⟩
                ·
                 rw [if_neg c153] at H
                 have c153b0 : (t160 == 2) = false := beq_eq_false_iff_ne.mpr c153
                 have c153b1 : (t160 != 2) = true := bne_iff_ne.mpr c153
                 (first | rw [c153b0] | (simp only [i64_w, i32_w]; rw [c153b0]) | skip)
                 have H' := Aside0.mk H
                 clear H
                 go_wp2
                 go_meet
                 case rel => exact ⟨_, ((t160 == 1)), (1), (by first | rfl | (simp; done) | (simp [*]; done)), (by first | rfl | (simp; done) | (simp [*]; done)), H', ⟨by have := HJ11.out; have := HK2.out; have := HK3.out; have := HJ132.out; first | omega | exact Nat.le_refl _⟩, ⟨by (with_reducible repeat (first | refine qa ?_ _ | refine qb ?_ | refine qc ?_ _)); exact Ka.out⟩, ⟨by (with_reducible repeat (first | refine qa ?_ _ | refine qb ?_ | refine qc ?_ _)); exact Kb.out⟩, ⟨by (with_reducible repeat (first | refine qa ?_ _ | refine qb ?_ | refine qc ?_ _)); exact Kc.out⟩, ⟨by repeat (first | (with_reducible first | exact HB.out | apply qg | apply qe | apply qf | refine qd ?_ Ga.out | refine qd ?_ Gb.out | refine qd ?_ Gc.out) | exact HB.out)⟩⟩
               case rest =>
                clear HC152
                try clear c1
                try clear p1
                try clear q1
                try clear hx1
                try clear c2
                try clear p2
                try clear c6
                try clear p6
                try clear c7
                try clear c9
                try clear c10
                try clear q10
                try clear c11
                try clear c12
                try clear q12
                try clear c13
                try clear c14
                try clear c15
                try clear p19
                try clear q19
                try clear hx19
                try clear c26
                try clear c27
                try clear p64
                try clear c66
                try clear c66b0
                try clear c67
                try clear c68
                try clear c69
                try clear c70
                try clear c93
                try clear c93b0
                try clear c94
                try clear c94b0
                try clear c95
                try clear c95b0
                try clear c98
                try clear c99
                try clear c100
                try clear c102
                try clear c102b0
                try clear q103
                try clear c104
                try clear c106
                try clear c107
                try clear c108
                try clear c112
                try clear c113
                try clear c114
                try clear c115
                try clear c118
                try clear c118b0
                try clear c119
                try clear c119b0
                try clear q120
                try clear c121
                try clear c123
                try clear c124
                try clear c125
                try clear c128
                try clear c129
                try clear c130
                try clear c131
                try clear c135
                try clear c136
                try clear c136b0 c136b1
                try clear c137
                try clear c137b0 c137b1
                try clear c141
                try clear c142
                try clear c151
                try clear c153
                try clear c153b0 c153b1
                try clear c154
                try clear c154b0 c154b1
                try clear c155
                try clear c156
                try clear c158
                try clear c159
                try clear hcz101_0 hcz101_1 hcz101_2
                try clear hcz109_0 hcz109_1 hcz109_2
                try clear hcz116_0 hcz116_1 hcz116_2
                try clear hcz126_0 hcz126_1 hcz126_2
                try clear hcz132_0 hcz132_1 hcz132_2
                try clear hcz143_0 hcz143_1 hcz143_2
                try clear hcz157_0 hcz157_1 hcz157_2
                try clear hcz160_0 hcz160_1 hcz160_2
                try clear hfz101_0 hfz101_1 hfz101_2
                try clear hfz109_0 hfz109_1 hfz109_2
                try clear hfz116_0 hfz116_1 hfz116_2
                try clear hfz126_0 hfz126_1 hfz126_2
                try clear hfz132_0 hfz132_1 hfz132_2
                try clear hfz143_0 hfz143_1 hfz143_2
                try clear hfz157_0 hfz157_1 hfz157_2
                try clear hfz160_0 hfz160_1 hfz160_2
                try clear hx192_0
                try clear hx192_1
                try clear hx192_2
                try clear hx194_0
                try clear hx195_0
                try clear p1
                try clear p19
                try clear p192
                try clear p194
                try clear p195
                try clear p2
                try clear p6
                try clear p64
                try clear q1
                try clear q10
                try clear q103
                try clear q12
                try clear q120
                try clear q19
                try clear q192
                try clear q194
                try clear q195
                obtain ⟨kq, x29_151, x30_151, rfl, rfl, HA, HJ151, Ka, Kb, Kc, HB⟩ := hcut
                cases kq with
                | zero => exact absurd HA.out (by simp [mootlaw4_BurdenTells.j7])
                | succ kj151 =>
                 have H := HA.out
                 clear HA
                 simp only [mootlaw4_BurdenTells.j7] at H
                 by_cases c161 : x29_151 = true
                 ·
                  subst c161
                  have H1 : (if (t162 == true) = true then (if t163 = x30_151 then (some (t165 == a2_0 && (t166.toList == a2_1.toList && ((t167 == 1 && (t168 == (0 + 1))) && (t169 == a2_4 && (t170 == a2_5 && (t171 == a2_6))))))) else (some false)) else (some false)) = some r := by rw [if_pos rfl] at H; exact H
                  clear H
                  have H := H1
                  clear H1
                  by_cases c162 : (t162 == true) = true
                  ·
                   rw [if_pos c162] at H
                   have c162b0 : (t162 == true) = true := c162
                   (try (have c162b1 : decide (t162 = true) = true := by simpa using c162))
                   (try (have c162b2 : (t162 == true) = true := by simpa using c162))
                   clear c162
                   by_cases c163 : t163 = x30_151
                   ·
                    rw [if_pos c163] at H
                    have c163b0 : (t163 == x30_151) = true := beq_iff_eq.mpr c163
                    have c163b1 : (t163 != x30_151) = false := bne_eq_false_iff_eq.mpr c163
                    clear c163
                    obtain rfl := Option.some.inj H
                    have hnb164 := Nf.out
                    have hnc164 := Ne.out
                    have hnb165 := Nb.out
                    have hnc165 := Nd.out
                    have hcz166_0 : wc.cell? ⟨gb150, 0, none⟩ = some (.int .i64 a2_0) := (qi Kb.out 0).trans rfl
                    have hcz166_1 : wc.cell? ⟨gb150, 1, none⟩ = some (.string a2_1) := (qi Kb.out 1).trans rfl
                    have hcz166_2 : wc.cell? ⟨gb150, 2, none⟩ = some (.int .i64 a2_2) := (qi Kb.out 2).trans rfl
                    have hcz166_3 : wc.cell? ⟨gb150, 3, none⟩ = some (.int .i64 a2_3) := (qi Kb.out 3).trans rfl
                    have hcz166_4 : wc.cell? ⟨gb150, 4, none⟩ = some (.int .i64 a2_4) := (qi Kb.out 4).trans rfl
                    have hcz166_5 : wc.cell? ⟨gb150, 5, none⟩ = some (.int .i64 a2_5) := (qi Kb.out 5).trans rfl
                    have hcz166_6 : wc.cell? ⟨gb150, 6, none⟩ = some (.int .i64 a2_6) := (qi Kb.out 6).trans rfl; have hdy166_0 : ∀ a_ b_, ((wc.setCell ⟨gb150, 2, none⟩ a_).setCell ⟨gb150, 3, none⟩ b_).cell? ⟨gb150, 0, none⟩ = some (.int .i64 a2_0) := fun a_ b_ => (blk_cell (blk_set (blk_set Kb.out 2 a_) 3 b_) 0).trans rfl; have hdy166_1 : ∀ a_ b_, ((wc.setCell ⟨gb150, 2, none⟩ a_).setCell ⟨gb150, 3, none⟩ b_).cell? ⟨gb150, 1, none⟩ = some (.string a2_1) := fun a_ b_ => (blk_cell (blk_set (blk_set Kb.out 2 a_) 3 b_) 1).trans rfl; have hdy166_2 : ∀ a_ b_, ((wc.setCell ⟨gb150, 2, none⟩ a_).setCell ⟨gb150, 3, none⟩ b_).cell? ⟨gb150, 2, none⟩ = some a_ := fun a_ b_ => (blk_cell (blk_set (blk_set Kb.out 2 a_) 3 b_) 2).trans rfl; have hdy166_3 : ∀ a_ b_, ((wc.setCell ⟨gb150, 2, none⟩ a_).setCell ⟨gb150, 3, none⟩ b_).cell? ⟨gb150, 3, none⟩ = some b_ := fun a_ b_ => (blk_cell (blk_set (blk_set Kb.out 2 a_) 3 b_) 3).trans rfl; have hdy166_4 : ∀ a_ b_, ((wc.setCell ⟨gb150, 2, none⟩ a_).setCell ⟨gb150, 3, none⟩ b_).cell? ⟨gb150, 4, none⟩ = some (.int .i64 a2_4) := fun a_ b_ => (blk_cell (blk_set (blk_set Kb.out 2 a_) 3 b_) 4).trans rfl; have hdy166_5 : ∀ a_ b_, ((wc.setCell ⟨gb150, 2, none⟩ a_).setCell ⟨gb150, 3, none⟩ b_).cell? ⟨gb150, 5, none⟩ = some (.int .i64 a2_5) := fun a_ b_ => (blk_cell (blk_set (blk_set Kb.out 2 a_) 3 b_) 5).trans rfl; have hdy166_6 : ∀ a_ b_, ((wc.setCell ⟨gb150, 2, none⟩ a_).setCell ⟨gb150, 3, none⟩ b_).cell? ⟨gb150, 6, none⟩ = some (.int .i64 a2_6) := fun a_ b_ => (blk_cell (blk_set (blk_set Kb.out 2 a_) 3 b_) 6).trans rfl
                    have hfz166_0 := qh Kb.out 0
                    have hfz166_1 := qh Kb.out 1
                    have hfz166_2 := qh Kb.out 2
                    have hfz166_3 := qh Kb.out 3
                    have hfz166_4 := qh Kb.out 4
                    have hfz166_5 := qh Kb.out 5
                    have hfz166_6 := qh Kb.out 6
                    have hnb167 := Nc.out
                    have hnc167 := Na.out
                    have hcz168_0 : wc.cell? ⟨gb173, 0, none⟩ = some (.int .i64 t165) := (qi Kc.out 0).trans rfl
                    have hcz168_1 : wc.cell? ⟨gb173, 1, none⟩ = some (.string t166) := (qi Kc.out 1).trans rfl
                    have hcz168_2 : wc.cell? ⟨gb173, 2, none⟩ = some (.int .i64 t167) := (qi Kc.out 2).trans rfl
                    have hcz168_3 : wc.cell? ⟨gb173, 3, none⟩ = some (.int .i64 t168) := (qi Kc.out 3).trans rfl
                    have hcz168_4 : wc.cell? ⟨gb173, 4, none⟩ = some (.int .i64 t169) := (qi Kc.out 4).trans rfl
                    have hcz168_5 : wc.cell? ⟨gb173, 5, none⟩ = some (.int .i64 t170) := (qi Kc.out 5).trans rfl
                    have hcz168_6 : wc.cell? ⟨gb173, 6, none⟩ = some (.int .i64 t171) := (qi Kc.out 6).trans rfl
                    have hfz168_0 := qh Kc.out 0
                    have hfz168_1 := qh Kc.out 1
                    have hfz168_2 := qh Kc.out 2
                    have hfz168_3 := qh Kc.out 3
                    have hfz168_4 := qh Kc.out 4
                    have hfz168_5 := qh Kc.out 5
                    have hfz168_6 := qh Kc.out 6
                    go_wp2
                    go_ret
                    exact ⟨by first | rfl | (simp [errW_none, errW_some] <;> rfl) | (simp [*, errW_none, errW_some] <;> rfl), by repeat (first | (with_reducible first | exact HB.out | apply qg | apply qe | apply qf | refine qd ?_ Ga.out | refine qd ?_ Gb.out | refine qd ?_ Gc.out) | exact HB.out)⟩
                   ·
                    rw [if_neg c163] at H
                    have c163b0 : (t163 == x30_151) = false := beq_eq_false_iff_ne.mpr c163
                    have c163b1 : (t163 != x30_151) = true := bne_iff_ne.mpr c163
                    obtain rfl := Option.some.inj H
                    have hnb169 := Nf.out
                    have hnc169 := Ne.out
                    have hnb170 := Nb.out
                    have hnc170 := Nd.out
                    have hcz171_0 : wc.cell? ⟨gb150, 0, none⟩ = some (.int .i64 a2_0) := (qi Kb.out 0).trans rfl
                    have hcz171_1 : wc.cell? ⟨gb150, 1, none⟩ = some (.string a2_1) := (qi Kb.out 1).trans rfl
                    have hcz171_2 : wc.cell? ⟨gb150, 2, none⟩ = some (.int .i64 a2_2) := (qi Kb.out 2).trans rfl
                    have hcz171_3 : wc.cell? ⟨gb150, 3, none⟩ = some (.int .i64 a2_3) := (qi Kb.out 3).trans rfl
                    have hcz171_4 : wc.cell? ⟨gb150, 4, none⟩ = some (.int .i64 a2_4) := (qi Kb.out 4).trans rfl
                    have hcz171_5 : wc.cell? ⟨gb150, 5, none⟩ = some (.int .i64 a2_5) := (qi Kb.out 5).trans rfl
                    have hcz171_6 : wc.cell? ⟨gb150, 6, none⟩ = some (.int .i64 a2_6) := (qi Kb.out 6).trans rfl; have hdy171_0 : ∀ a_ b_, ((wc.setCell ⟨gb150, 2, none⟩ a_).setCell ⟨gb150, 3, none⟩ b_).cell? ⟨gb150, 0, none⟩ = some (.int .i64 a2_0) := fun a_ b_ => (blk_cell (blk_set (blk_set Kb.out 2 a_) 3 b_) 0).trans rfl; have hdy171_1 : ∀ a_ b_, ((wc.setCell ⟨gb150, 2, none⟩ a_).setCell ⟨gb150, 3, none⟩ b_).cell? ⟨gb150, 1, none⟩ = some (.string a2_1) := fun a_ b_ => (blk_cell (blk_set (blk_set Kb.out 2 a_) 3 b_) 1).trans rfl; have hdy171_2 : ∀ a_ b_, ((wc.setCell ⟨gb150, 2, none⟩ a_).setCell ⟨gb150, 3, none⟩ b_).cell? ⟨gb150, 2, none⟩ = some a_ := fun a_ b_ => (blk_cell (blk_set (blk_set Kb.out 2 a_) 3 b_) 2).trans rfl; have hdy171_3 : ∀ a_ b_, ((wc.setCell ⟨gb150, 2, none⟩ a_).setCell ⟨gb150, 3, none⟩ b_).cell? ⟨gb150, 3, none⟩ = some b_ := fun a_ b_ => (blk_cell (blk_set (blk_set Kb.out 2 a_) 3 b_) 3).trans rfl; have hdy171_4 : ∀ a_ b_, ((wc.setCell ⟨gb150, 2, none⟩ a_).setCell ⟨gb150, 3, none⟩ b_).cell? ⟨gb150, 4, none⟩ = some (.int .i64 a2_4) := fun a_ b_ => (blk_cell (blk_set (blk_set Kb.out 2 a_) 3 b_) 4).trans rfl; have hdy171_5 : ∀ a_ b_, ((wc.setCell ⟨gb150, 2, none⟩ a_).setCell ⟨gb150, 3, none⟩ b_).cell? ⟨gb150, 5, none⟩ = some (.int .i64 a2_5) := fun a_ b_ => (blk_cell (blk_set (blk_set Kb.out 2 a_) 3 b_) 5).trans rfl; have hdy171_6 : ∀ a_ b_, ((wc.setCell ⟨gb150, 2, none⟩ a_).setCell ⟨gb150, 3, none⟩ b_).cell? ⟨gb150, 6, none⟩ = some (.int .i64 a2_6) := fun a_ b_ => (blk_cell (blk_set (blk_set Kb.out 2 a_) 3 b_) 6).trans rfl
                    have hfz171_0 := qh Kb.out 0
                    have hfz171_1 := qh Kb.out 1
                    have hfz171_2 := qh Kb.out 2
                    have hfz171_3 := qh Kb.out 3
                    have hfz171_4 := qh Kb.out 4
                    have hfz171_5 := qh Kb.out 5
                    have hfz171_6 := qh Kb.out 6
                    go_wp2
                    go_ret
                    exact ⟨by first | rfl | (simp [errW_none, errW_some] <;> rfl) | (simp [*, errW_none, errW_some] <;> rfl), by repeat (first | (with_reducible first | exact HB.out | apply qg | apply qe | apply qf | refine qd ?_ Ga.out | refine qd ?_ Gb.out | refine qd ?_ Gc.out) | exact HB.out)⟩
                  ·
                   rw [if_neg c162] at H
                   have c162b0 : (t162 == true) = false := by first | exact Bool.eq_false_iff.mpr c162 | simpa using c162
                   (try (have c162b1 : decide (t162 = true) = false := by simpa using c162))
                   (try (have c162b2 : (t162 == true) = false := by simpa using c162))
                   (try (have c162b3 : ¬ (t162 = true) := by simpa using c162))
                   clear c162
                   obtain rfl := Option.some.inj H
                   have hnb172 := Nf.out
                   have hnc172 := Ne.out
                   have hnb173 := Nb.out
                   have hnc173 := Nd.out
                   have hcz174_0 : wc.cell? ⟨gb150, 0, none⟩ = some (.int .i64 a2_0) := (qi Kb.out 0).trans rfl
                   have hcz174_1 : wc.cell? ⟨gb150, 1, none⟩ = some (.string a2_1) := (qi Kb.out 1).trans rfl
                   have hcz174_2 : wc.cell? ⟨gb150, 2, none⟩ = some (.int .i64 a2_2) := (qi Kb.out 2).trans rfl
                   have hcz174_3 : wc.cell? ⟨gb150, 3, none⟩ = some (.int .i64 a2_3) := (qi Kb.out 3).trans rfl
                   have hcz174_4 : wc.cell? ⟨gb150, 4, none⟩ = some (.int .i64 a2_4) := (qi Kb.out 4).trans rfl
                   have hcz174_5 : wc.cell? ⟨gb150, 5, none⟩ = some (.int .i64 a2_5) := (qi Kb.out 5).trans rfl
                   have hcz174_6 : wc.cell? ⟨gb150, 6, none⟩ = some (.int .i64 a2_6) := (qi Kb.out 6).trans rfl
                   have hfz174_0 := qh Kb.out 0
                   have hfz174_1 := qh Kb.out 1
                   have hfz174_2 := qh Kb.out 2
                   have hfz174_3 := qh Kb.out 3
                   have hfz174_4 := qh Kb.out 4
                   have hfz174_5 := qh Kb.out 5
                   have hfz174_6 := qh Kb.out 6
                   go_wp2
                   go_ret
                   exact ⟨by first | rfl | (simp [errW_none, errW_some] <;> rfl) | (simp [*, errW_none, errW_some] <;> rfl), by repeat (first | (with_reducible first | exact HB.out | apply qg | apply qe | apply qf | refine qd ?_ Ga.out | refine qd ?_ Gb.out | refine qd ?_ Gc.out) | exact HB.out)⟩
                 ·
                  replace c161 := Bool.eq_false_iff.mpr c161
                  subst c161
                  have H1 : (if (t162 == false) = true then (if t163 = x30_151 then (some (t165 == a2_0 && (t166.toList == a2_1.toList && ((t167 == 1 && (t168 == 0)) && (t169 == a2_4 && (t170 == a2_5 && (t171 == a2_6))))))) else (some false)) else (some false)) = some r := by rw [if_neg (show ¬ (false = true) by decide)] at H; exact H
                  clear H
                  have H := H1
                  clear H1
                  by_cases c175 : (t162 == false) = true
                  ·
                   rw [if_pos c175] at H
                   have c175b0 : (t162 == false) = true := c175
                   (try (have c175b1 : decide (t162 = false) = true := by simpa using c175))
                   (try (have c175b2 : (t162 == false) = true := by simpa using c175))
                   clear c175
                   by_cases c176 : t163 = x30_151
                   ·
                    rw [if_pos c176] at H
                    have c176b0 : (t163 == x30_151) = true := beq_iff_eq.mpr c176
                    have c176b1 : (t163 != x30_151) = false := bne_eq_false_iff_eq.mpr c176
                    clear c176
                    obtain rfl := Option.some.inj H
                    have hnb177 := Nf.out
                    have hnc177 := Ne.out
                    have hnb178 := Nb.out
                    have hnc178 := Nd.out
                    have hcz179_0 : wc.cell? ⟨gb150, 0, none⟩ = some (.int .i64 a2_0) := (qi Kb.out 0).trans rfl
                    have hcz179_1 : wc.cell? ⟨gb150, 1, none⟩ = some (.string a2_1) := (qi Kb.out 1).trans rfl
                    have hcz179_2 : wc.cell? ⟨gb150, 2, none⟩ = some (.int .i64 a2_2) := (qi Kb.out 2).trans rfl
                    have hcz179_3 : wc.cell? ⟨gb150, 3, none⟩ = some (.int .i64 a2_3) := (qi Kb.out 3).trans rfl
                    have hcz179_4 : wc.cell? ⟨gb150, 4, none⟩ = some (.int .i64 a2_4) := (qi Kb.out 4).trans rfl
                    have hcz179_5 : wc.cell? ⟨gb150, 5, none⟩ = some (.int .i64 a2_5) := (qi Kb.out 5).trans rfl
                    have hcz179_6 : wc.cell? ⟨gb150, 6, none⟩ = some (.int .i64 a2_6) := (qi Kb.out 6).trans rfl; have hdy179_0 : ∀ a_ b_, ((wc.setCell ⟨gb150, 2, none⟩ a_).setCell ⟨gb150, 3, none⟩ b_).cell? ⟨gb150, 0, none⟩ = some (.int .i64 a2_0) := fun a_ b_ => (blk_cell (blk_set (blk_set Kb.out 2 a_) 3 b_) 0).trans rfl; have hdy179_1 : ∀ a_ b_, ((wc.setCell ⟨gb150, 2, none⟩ a_).setCell ⟨gb150, 3, none⟩ b_).cell? ⟨gb150, 1, none⟩ = some (.string a2_1) := fun a_ b_ => (blk_cell (blk_set (blk_set Kb.out 2 a_) 3 b_) 1).trans rfl; have hdy179_2 : ∀ a_ b_, ((wc.setCell ⟨gb150, 2, none⟩ a_).setCell ⟨gb150, 3, none⟩ b_).cell? ⟨gb150, 2, none⟩ = some a_ := fun a_ b_ => (blk_cell (blk_set (blk_set Kb.out 2 a_) 3 b_) 2).trans rfl; have hdy179_3 : ∀ a_ b_, ((wc.setCell ⟨gb150, 2, none⟩ a_).setCell ⟨gb150, 3, none⟩ b_).cell? ⟨gb150, 3, none⟩ = some b_ := fun a_ b_ => (blk_cell (blk_set (blk_set Kb.out 2 a_) 3 b_) 3).trans rfl; have hdy179_4 : ∀ a_ b_, ((wc.setCell ⟨gb150, 2, none⟩ a_).setCell ⟨gb150, 3, none⟩ b_).cell? ⟨gb150, 4, none⟩ = some (.int .i64 a2_4) := fun a_ b_ => (blk_cell (blk_set (blk_set Kb.out 2 a_) 3 b_) 4).trans rfl; have hdy179_5 : ∀ a_ b_, ((wc.setCell ⟨gb150, 2, none⟩ a_).setCell ⟨gb150, 3, none⟩ b_).cell? ⟨gb150, 5, none⟩ = some (.int .i64 a2_5) := fun a_ b_ => (blk_cell (blk_set (blk_set Kb.out 2 a_) 3 b_) 5).trans rfl; have hdy179_6 : ∀ a_ b_, ((wc.setCell ⟨gb150, 2, none⟩ a_).setCell ⟨gb150, 3, none⟩ b_).cell? ⟨gb150, 6, none⟩ = some (.int .i64 a2_6) := fun a_ b_ => (blk_cell (blk_set (blk_set Kb.out 2 a_) 3 b_) 6).trans rfl
                    have hfz179_0 := qh Kb.out 0
                    have hfz179_1 := qh Kb.out 1
                    have hfz179_2 := qh Kb.out 2
                    have hfz179_3 := qh Kb.out 3
                    have hfz179_4 := qh Kb.out 4
                    have hfz179_5 := qh Kb.out 5
                    have hfz179_6 := qh Kb.out 6
                    have hnb180 := Nc.out
                    have hnc180 := Na.out
                    have hcz181_0 : wc.cell? ⟨gb173, 0, none⟩ = some (.int .i64 t165) := (qi Kc.out 0).trans rfl
                    have hcz181_1 : wc.cell? ⟨gb173, 1, none⟩ = some (.string t166) := (qi Kc.out 1).trans rfl
                    have hcz181_2 : wc.cell? ⟨gb173, 2, none⟩ = some (.int .i64 t167) := (qi Kc.out 2).trans rfl
                    have hcz181_3 : wc.cell? ⟨gb173, 3, none⟩ = some (.int .i64 t168) := (qi Kc.out 3).trans rfl
                    have hcz181_4 : wc.cell? ⟨gb173, 4, none⟩ = some (.int .i64 t169) := (qi Kc.out 4).trans rfl
                    have hcz181_5 : wc.cell? ⟨gb173, 5, none⟩ = some (.int .i64 t170) := (qi Kc.out 5).trans rfl
                    have hcz181_6 : wc.cell? ⟨gb173, 6, none⟩ = some (.int .i64 t171) := (qi Kc.out 6).trans rfl
                    have hfz181_0 := qh Kc.out 0
                    have hfz181_1 := qh Kc.out 1
                    have hfz181_2 := qh Kc.out 2
                    have hfz181_3 := qh Kc.out 3
                    have hfz181_4 := qh Kc.out 4
                    have hfz181_5 := qh Kc.out 5
                    have hfz181_6 := qh Kc.out 6
                    go_wp2
                    go_ret
                    exact ⟨by first | rfl | (simp [errW_none, errW_some] <;> rfl) | (simp [*, errW_none, errW_some] <;> rfl), by repeat (first | (with_reducible first | exact HB.out | apply qg | apply qe | apply qf | refine qd ?_ Ga.out | refine qd ?_ Gb.out | refine qd ?_ Gc.out) | exact HB.out)⟩
                   ·
                    rw [if_neg c176] at H
                    have c176b0 : (t163 == x30_151) = false := beq_eq_false_iff_ne.mpr c176
                    have c176b1 : (t163 != x30_151) = true := bne_iff_ne.mpr c176
                    obtain rfl := Option.some.inj H
                    have hnb182 := Nf.out
                    have hnc182 := Ne.out
                    have hnb183 := Nb.out
                    have hnc183 := Nd.out
                    have hcz184_0 : wc.cell? ⟨gb150, 0, none⟩ = some (.int .i64 a2_0) := (qi Kb.out 0).trans rfl
                    have hcz184_1 : wc.cell? ⟨gb150, 1, none⟩ = some (.string a2_1) := (qi Kb.out 1).trans rfl
                    have hcz184_2 : wc.cell? ⟨gb150, 2, none⟩ = some (.int .i64 a2_2) := (qi Kb.out 2).trans rfl
                    have hcz184_3 : wc.cell? ⟨gb150, 3, none⟩ = some (.int .i64 a2_3) := (qi Kb.out 3).trans rfl
                    have hcz184_4 : wc.cell? ⟨gb150, 4, none⟩ = some (.int .i64 a2_4) := (qi Kb.out 4).trans rfl
                    have hcz184_5 : wc.cell? ⟨gb150, 5, none⟩ = some (.int .i64 a2_5) := (qi Kb.out 5).trans rfl
                    have hcz184_6 : wc.cell? ⟨gb150, 6, none⟩ = some (.int .i64 a2_6) := (qi Kb.out 6).trans rfl; have hdy184_0 : ∀ a_ b_, ((wc.setCell ⟨gb150, 2, none⟩ a_).setCell ⟨gb150, 3, none⟩ b_).cell? ⟨gb150, 0, none⟩ = some (.int .i64 a2_0) := fun a_ b_ => (blk_cell (blk_set (blk_set Kb.out 2 a_) 3 b_) 0).trans rfl; have hdy184_1 : ∀ a_ b_, ((wc.setCell ⟨gb150, 2, none⟩ a_).setCell ⟨gb150, 3, none⟩ b_).cell? ⟨gb150, 1, none⟩ = some (.string a2_1) := fun a_ b_ => (blk_cell (blk_set (blk_set Kb.out 2 a_) 3 b_) 1).trans rfl; have hdy184_2 : ∀ a_ b_, ((wc.setCell ⟨gb150, 2, none⟩ a_).setCell ⟨gb150, 3, none⟩ b_).cell? ⟨gb150, 2, none⟩ = some a_ := fun a_ b_ => (blk_cell (blk_set (blk_set Kb.out 2 a_) 3 b_) 2).trans rfl; have hdy184_3 : ∀ a_ b_, ((wc.setCell ⟨gb150, 2, none⟩ a_).setCell ⟨gb150, 3, none⟩ b_).cell? ⟨gb150, 3, none⟩ = some b_ := fun a_ b_ => (blk_cell (blk_set (blk_set Kb.out 2 a_) 3 b_) 3).trans rfl; have hdy184_4 : ∀ a_ b_, ((wc.setCell ⟨gb150, 2, none⟩ a_).setCell ⟨gb150, 3, none⟩ b_).cell? ⟨gb150, 4, none⟩ = some (.int .i64 a2_4) := fun a_ b_ => (blk_cell (blk_set (blk_set Kb.out 2 a_) 3 b_) 4).trans rfl; have hdy184_5 : ∀ a_ b_, ((wc.setCell ⟨gb150, 2, none⟩ a_).setCell ⟨gb150, 3, none⟩ b_).cell? ⟨gb150, 5, none⟩ = some (.int .i64 a2_5) := fun a_ b_ => (blk_cell (blk_set (blk_set Kb.out 2 a_) 3 b_) 5).trans rfl; have hdy184_6 : ∀ a_ b_, ((wc.setCell ⟨gb150, 2, none⟩ a_).setCell ⟨gb150, 3, none⟩ b_).cell? ⟨gb150, 6, none⟩ = some (.int .i64 a2_6) := fun a_ b_ => (blk_cell (blk_set (blk_set Kb.out 2 a_) 3 b_) 6).trans rfl
                    have hfz184_0 := qh Kb.out 0
                    have hfz184_1 := qh Kb.out 1
                    have hfz184_2 := qh Kb.out 2
                    have hfz184_3 := qh Kb.out 3
                    have hfz184_4 := qh Kb.out 4
                    have hfz184_5 := qh Kb.out 5
                    have hfz184_6 := qh Kb.out 6
                    go_wp2
                    go_ret
                    exact ⟨by first | rfl | (simp [errW_none, errW_some] <;> rfl) | (simp [*, errW_none, errW_some] <;> rfl), by repeat (first | (with_reducible first | exact HB.out | apply qg | apply qe | apply qf | refine qd ?_ Ga.out | refine qd ?_ Gb.out | refine qd ?_ Gc.out) | exact HB.out)⟩
                  ·
                   rw [if_neg c175] at H
                   have c175b0 : (t162 == false) = false := by first | exact Bool.eq_false_iff.mpr c175 | simpa using c175
                   (try (have c175b1 : decide (t162 = false) = false := by simpa using c175))
                   (try (have c175b2 : (t162 == false) = false := by simpa using c175))
                   (try (have c175b3 : ¬ (t162 = false) := by simpa using c175))
                   clear c175
                   obtain rfl := Option.some.inj H
                   have hnb185 := Nf.out
                   have hnc185 := Ne.out
                   have hnb186 := Nb.out
                   have hnc186 := Nd.out
                   have hcz187_0 : wc.cell? ⟨gb150, 0, none⟩ = some (.int .i64 a2_0) := (qi Kb.out 0).trans rfl
                   have hcz187_1 : wc.cell? ⟨gb150, 1, none⟩ = some (.string a2_1) := (qi Kb.out 1).trans rfl
                   have hcz187_2 : wc.cell? ⟨gb150, 2, none⟩ = some (.int .i64 a2_2) := (qi Kb.out 2).trans rfl
                   have hcz187_3 : wc.cell? ⟨gb150, 3, none⟩ = some (.int .i64 a2_3) := (qi Kb.out 3).trans rfl
                   have hcz187_4 : wc.cell? ⟨gb150, 4, none⟩ = some (.int .i64 a2_4) := (qi Kb.out 4).trans rfl
                   have hcz187_5 : wc.cell? ⟨gb150, 5, none⟩ = some (.int .i64 a2_5) := (qi Kb.out 5).trans rfl
                   have hcz187_6 : wc.cell? ⟨gb150, 6, none⟩ = some (.int .i64 a2_6) := (qi Kb.out 6).trans rfl
                   have hfz187_0 := qh Kb.out 0
                   have hfz187_1 := qh Kb.out 1
                   have hfz187_2 := qh Kb.out 2
                   have hfz187_3 := qh Kb.out 3
                   have hfz187_4 := qh Kb.out 4
                   have hfz187_5 := qh Kb.out 5
                   have hfz187_6 := qh Kb.out 6
                   go_wp2
                   go_ret
                   exact ⟨by first | rfl | (simp [errW_none, errW_some] <;> rfl) | (simp [*, errW_none, errW_some] <;> rfl), by repeat (first | (with_reducible first | exact HB.out | apply qg | apply qe | apply qf | refine qd ?_ Ga.out | refine qd ?_ Gb.out | refine qd ?_ Gc.out) | exact HB.out)⟩
     ·
      rw [if_neg c65] at H
      have c65b0 : (t152 == 0) = false := beq_eq_false_iff_ne.mpr c65
      have c65b1 : (t152 != 0) = true := bne_iff_ne.mpr c65
      by_cases c188 : (t153.length : Int) = 0
      ·
       rw [if_pos c188] at H
       have c188b0 : ((t153.length : Int) == 0) = true := beq_iff_eq.mpr c188
       have c188b1 : ((t153.length : Int) != 0) = false := bne_eq_false_iff_eq.mpr c188
       clear c188
       by_cases c189 : (wrap64 ((wrap64 ((wrap64 (t157 + t158)) + t160)) + t163)) = 0
       ·
        rw [if_pos c189] at H
        have c189b0 : ((wrap64 ((wrap64 ((wrap64 (t157 + t158)) + t160)) + t163)) == 0) = true := beq_iff_eq.mpr c189
        have c189b1 : ((wrap64 ((wrap64 ((wrap64 (t157 + t158)) + t160)) + t163)) != 0) = false := bne_eq_false_iff_eq.mpr c189
        clear c189
        by_cases c190 : t162 = true
        ·
         subst c190
         have H1 : (some false) = some r := by rw [if_pos rfl] at H; exact H
         clear H
         have H := H1
         clear H1
         obtain rfl := Option.some.inj H
         obtain ⟨Ao191, co191, eo191⟩ := Kd.R_slice HO_8.out
         subst eo191
         go_wp2
         go_ret
         exact ⟨by first | rfl | (simp [errW_none, errW_some] <;> rfl) | (simp [*, errW_none, errW_some] <;> rfl), by repeat (first | (with_reducible first | exact HB.out | apply qg | apply qe | apply qf | refine qd ?_ Ga.out | refine qd ?_ Gb.out | refine qd ?_ Gc.out) | exact HB.out)⟩
        ·
         replace c190 := Bool.eq_false_iff.mpr c190
         subst c190
         have H1 : (some (t165 == 0 && (t166.toList == ([] : List UInt8) && ((t167 == 0 && (t168 == 0)) && (t169 == 0 && (t170 == 0 && (t171 == 0))))))) = some r := by rw [if_neg (show ¬ (false = true) by decide)] at H; exact H
         clear H
         have H := H1
         clear H1
         obtain rfl := Option.some.inj H
         obtain ⟨Ao192, co192, eo192⟩ := Kd.R_slice HO_8.out
         subst eo192
         have hnb193 := Nc.out
         have hnc193 := Na.out
         have hnb194 := Nd.out
         have hnc194 := Nb.out
         have hcz195_0 : wc.cell? ⟨gb173, 0, none⟩ = some (.int .i64 t165) := (qi Kc.out 0).trans rfl
         have hcz195_1 : wc.cell? ⟨gb173, 1, none⟩ = some (.string t166) := (qi Kc.out 1).trans rfl
         have hcz195_2 : wc.cell? ⟨gb173, 2, none⟩ = some (.int .i64 t167) := (qi Kc.out 2).trans rfl
         have hcz195_3 : wc.cell? ⟨gb173, 3, none⟩ = some (.int .i64 t168) := (qi Kc.out 3).trans rfl
         have hcz195_4 : wc.cell? ⟨gb173, 4, none⟩ = some (.int .i64 t169) := (qi Kc.out 4).trans rfl
         have hcz195_5 : wc.cell? ⟨gb173, 5, none⟩ = some (.int .i64 t170) := (qi Kc.out 5).trans rfl
         have hcz195_6 : wc.cell? ⟨gb173, 6, none⟩ = some (.int .i64 t171) := (qi Kc.out 6).trans rfl
         have hfz195_0 := qh Kc.out 0
         have hfz195_1 := qh Kc.out 1
         have hfz195_2 := qh Kc.out 2
         have hfz195_3 := qh Kc.out 3
         have hfz195_4 := qh Kc.out 4
         have hfz195_5 := qh Kc.out 5
         have hfz195_6 := qh Kc.out 6
         go_wp2
         go_ret
         exact ⟨by first | rfl | (simp [errW_none, errW_some] <;> rfl) | (simp [*, errW_none, errW_some] <;> rfl), by repeat (first | (with_reducible first | exact HB.out | apply qg | apply qe | apply qf | refine qd ?_ Ga.out | refine qd ?_ Gb.out | refine qd ?_ Gc.out) | exact HB.out)⟩
       ·
        rw [if_neg c189] at H
        have c189b0 : ((wrap64 ((wrap64 ((wrap64 (t157 + t158)) + t160)) + t163)) == 0) = false := beq_eq_false_iff_ne.mpr c189
        have c189b1 : ((wrap64 ((wrap64 ((wrap64 (t157 + t158)) + t160)) + t163)) != 0) = true := bne_iff_ne.mpr c189
        obtain rfl := Option.some.inj H
        obtain ⟨Ao196, co196, eo196⟩ := Kd.R_slice HO_8.out
        subst eo196
        go_wp2
        go_ret
        exact ⟨by first | rfl | (simp [errW_none, errW_some] <;> rfl) | (simp [*, errW_none, errW_some] <;> rfl), by repeat (first | (with_reducible first | exact HB.out | apply qg | apply qe | apply qf | refine qd ?_ Ga.out | refine qd ?_ Gb.out | refine qd ?_ Gc.out) | exact HB.out)⟩
      ·
       rw [if_neg c188] at H
       have c188b0 : ((t153.length : Int) == 0) = false := beq_eq_false_iff_ne.mpr c188
       have c188b1 : ((t153.length : Int) != 0) = true := bne_iff_ne.mpr c188
       have c188b2 : ¬ (t153 = []) := fun h_ => c188 (by rw [h_]; rfl)
       obtain rfl := Option.some.inj H
       obtain ⟨Ao197, co197, eo197⟩ := Kd.R_slice HO_8.out
       subst eo197
       go_wp2
       go_ret
       exact ⟨by first | rfl | (simp [errW_none, errW_some] <;> rfl) | (simp [*, errW_none, errW_some] <;> rfl), by repeat (first | (with_reducible first | exact HB.out | apply qg | apply qe | apply qf | refine qd ?_ Ga.out | refine qd ?_ Gb.out | refine qd ?_ Gc.out) | exact HB.out)⟩
 ·
  replace c5 := Bool.eq_false_iff.mpr c5
  subst c5
  have H1 : (some false) = some r := by rw [if_neg (show ¬ (false = true) by decide)] at H; exact H
  clear H
  have H := H1
  clear H1
  obtain rfl := Option.some.inj H
  go_enter Try.func6, Try.ntmps6
  go_wp2_with (first | ((with_reducible refine gate_dst (N := 3) rfl ?_); refine box_event ?hg (N := 3) ?hd (cs := #[.int .i64 a0_0, .int .i64 a0_1, .int .i64 a0_2]) (t := 25) ?hr ?_; (case hd => rfl); (case hg => rfl); (case hr => first | (go_simp; done) | (go_simp; rfl)); intro gb149 hg w198 hbox hb; have n0_ := Aside0.mk (below_step (by repeat (first | (with_reducible first | exact HB.out | apply qg | apply qe | apply qf) | exact HB.out)) hb); have n1_ := Aside0.mk (hbox); have n2_ := Aside0.mk ((by rw [hg]; exact (below_size (by repeat (first | (with_reducible first | exact HB.out | apply qg | apply qe | apply qf) | exact HB.out))) : w.heap.size ≤ gb149)); have n3_ := Aside0.mk ((by rw [hg]; exact (below_size (by repeat (first | (with_reducible first | exact HB.out | apply qg | apply qe | apply qf) | exact HB.out))) : w.heap.size ≤ gb149)); clear HB; have HB := n0_; have Ka := n1_; have GW149 := n2_; have Ga := n3_; clear n0_ n1_ n2_ n3_; clear hb hbox hg) | ((with_reducible refine gate_dst (N := 5) rfl ?_); refine box_event ?hg (N := 5) ?hd (cs := #[.int .i64 a2_0, .string a2_1, .int .i64 a2_2, .int .i64 a2_3, .int .i64 a2_4, .int .i64 a2_5, .int .i64 a2_6]) (t := 45) ?hr ?_; (case hd => rfl); (case hg => rfl); (case hr => first | (go_simp; done) | (go_simp; rfl)); intro gb150 hg w199 hbox hb; have n0_ := Aside0.mk (blk_below (g := gb149) (o := .cells #[.int .i64 a0_0, .int .i64 a0_1, .int .i64 a0_2] 25 (0, 0)) (by (with_reducible repeat (first | refine qa ?_ _ | refine qb ?_ | refine qc ?_ _)); exact Ka.out) hb); have n1_ := Aside0.mk (below_step (by repeat (first | (with_reducible first | exact HB.out | apply qg | apply qe | apply qf | refine qd ?_ Ga.out) | exact HB.out)) hb); have n2_ := Aside0.mk (hbox); have n3_ := Aside0.mk ((by rw [hg]; exact (below_size (by repeat (first | (with_reducible first | exact HB.out | apply qg | apply qe | apply qf | refine qd ?_ Ga.out) | exact HB.out))) : w.heap.size ≤ gb150)); have n4_ := Aside0.mk ((by rw [hg]; exact (below_size (by repeat (first | (with_reducible first | exact HB.out | apply qg | apply qe | apply qf | refine qd ?_ Ga.out) | exact HB.out))) : w.heap.size ≤ gb150)); have n5_ := Aside0.mk ((by rw [hg]; exact Nat.ne_of_lt (blk_lt (g := gb149) (o := .cells #[.int .i64 a0_0, .int .i64 a0_1, .int .i64 a0_2] 25 (0, 0)) (by (with_reducible repeat (first | refine qa ?_ _ | refine qb ?_ | refine qc ?_ _)); exact Ka.out)) : gb149 ≠ gb150)); have n6_ := Aside0.mk ((by rw [hg]; exact Nat.ne_of_gt (blk_lt (g := gb149) (o := .cells #[.int .i64 a0_0, .int .i64 a0_1, .int .i64 a0_2] 25 (0, 0)) (by (with_reducible repeat (first | refine qa ?_ _ | refine qb ?_ | refine qc ?_ _)); exact Ka.out)) : gb150 ≠ gb149)); clear Ka; clear HB; have Ka := n0_; have HB := n1_; have Kb := n2_; have GW150 := n3_; have Gb := n4_; have Ne := n5_; have Nf := n6_; clear n0_ n1_ n2_ n3_ n4_ n5_ n6_; clear hb hbox hg) | ((with_reducible refine gate_callee (f := 20) rfl ?_); refine goesL_ (some 31) rfl rfl Try.func20 (by kernel_rfl) rfl #[] rfl (by (try simp only [List.map_toArray, List.map_cons, List.map_nil]); first | done | rfl | (simp only [List.length_drop, List.length_take]; rfl)) ?_; (with_reducible refine (mootlaw4_proves.calls k  false _ A4.out).mono ?_); rintro e w200 ⟨rfl, hb⟩; refine ⟨_, rfl, ?_⟩; have n0_ := Aside0.mk (blk_below (g := gb149) (o := .cells #[.int .i64 a0_0, .int .i64 a0_1, .int .i64 a0_2] 25 (0, 0)) (by (with_reducible repeat (first | refine qa ?_ _ | refine qb ?_ | refine qc ?_ _)); exact Ka.out) hb); have n1_ := Aside0.mk (blk_below (g := gb150) (o := .cells #[.int .i64 a2_0, .string a2_1, .int .i64 a2_2, .int .i64 a2_3, .int .i64 a2_4, .int .i64 a2_5, .int .i64 a2_6] 45 (0, 0)) (by (with_reducible repeat (first | refine qa ?_ _ | refine qb ?_ | refine qc ?_ _)); exact Kb.out) hb); have n2_ := Aside0.mk (below_step (by repeat (first | (with_reducible first | exact HB.out | apply qg | apply qe | apply qf | refine qd ?_ Ga.out | refine qd ?_ Gb.out) | exact HB.out)) hb); clear Ka; clear Kb; clear HB; have Ka := n0_; have Kb := n1_; have HB := n2_; clear n0_ n1_ n2_; (try clear hb); (try clear hb2); (try clear hk); (try clear hi)))
  go_ret
  exact ⟨by first | rfl | (simp [errW_none, errW_some] <;> rfl) | (simp [*, errW_none, errW_some] <;> rfl), by repeat (first | (with_reducible first | exact HB.out | apply qg | apply qe | apply qf | refine qd ?_ Ga.out | refine qd ?_ Gb.out) | exact HB.out)⟩

/-- THE ONE PURE STATEMENT of mootlaw4_BurdenTells: yours. -/
def mootlaw4_BurdenTells.Pure : Prop := ∀ (a0_0 : Int) (a0_1 : Int) (a0_2 : Int) (l1 : List (S34)) (a2_0 : Int) (a2_1 : ByteArray) (a2_2 : Int) (a2_3 : Int) (a2_4 : Int) (a2_5 : Int) (a2_6 : Int), ((Lit.int .i64 a0_0).wf = true) → ((Lit.int .i64 a0_1).wf = true) → ((Lit.int .i64 a0_2).wf = true) → l1.length ≤ maxLen → l1.length * 24 ≤ 140737488351232 → (∀ x ∈ l1, wf_S34 x) → ((Lit.int .i64 a2_0).wf = true) → (a2_1.size ≤ maxLen) → ((Lit.int .i64 a2_2).wf = true) → ((Lit.int .i64 a2_3).wf = true) → ((Lit.int .i64 a2_4).wf = true) → ((Lit.int .i64 a2_5).wf = true) → ((Lit.int .i64 a2_6).wf = true) → ∃ k, mootlaw4_BurdenTells.f k a0_0 a0_1 a0_2 l1 a2_0 a2_1 a2_2 a2_3 a2_4 a2_5 a2_6 = some true
theorem mootlaw4_BurdenTells.walk (P : mootlaw4_BurdenTells.Pure) (a0_0 : Int) (a0_1 : Int) (a0_2 : Int) (a1 : Option Addr) (len1 cap1 : Nat) (l1 : List (S34)) (a2_0 : Int) (a2_1 : ByteArray) (a2_2 : Int) (a2_3 : Int) (a2_4 : Int) (a2_5 : Int) (a2_6 : Int) (w : World) (w0_0 : (Lit.int .i64 a0_0).wf = true) (w0_1 : (Lit.int .i64 a0_1).wf = true) (w0_2 : (Lit.int .i64 a0_2).wf = true) (w1 : len1 = l1.length ∧ l1.length ≤ cap1 ∧ Kd.C k34 w a1 l1.length l1) (x1 : l1.length ≤ maxLen ∧ ∀ x ∈ l1, wf_S34 x) (y1 : len1 * 24 ≤ 140737488351232) (w2_0 : (Lit.int .i64 a2_0).wf = true) (w2_1 : a2_1.size ≤ maxLen) (w2_2 : (Lit.int .i64 a2_2).wf = true) (w2_3 : (Lit.int .i64 a2_3).wf = true) (w2_4 : (Lit.int .i64 a2_4).wf = true) (w2_5 : (Lit.int .i64 a2_5).wf = true) (w2_6 : (Lit.int .i64 a2_6).wf = true) :
  Calls Try.prog 6 #[.agg #[.int .i64 a0_0, .int .i64 a0_1, .int .i64 a0_2], .slice a1 len1 cap1, .agg #[.int .i64 a2_0, .string a2_1, .int .i64 a2_2, .int .i64 a2_3, .int .i64 a2_4, .int .i64 a2_5, .int .i64 a2_6]] w fun e w' => e = .returned (.bool true) ∧ Below w.heap.size w w' := by
 obtain ⟨rfl, hc1, hr1⟩ := w1
 obtain ⟨k, h⟩ := P a0_0 a0_1 a0_2 l1 a2_0 a2_1 a2_2 a2_3 a2_4 a2_5 a2_6 w0_0 w0_1 w0_2 x1.1 y1 x1.2 w2_0 w2_1 w2_2 w2_3 w2_4 w2_5 w2_6
 refine (mootlaw4_BurdenTells.calls k a0_0 a0_1 a0_2 _ _ l1 a2_0 a2_1 a2_2 a2_3 a2_4 a2_5 a2_6 true w hr1 hc1 h).mono ?_
 rintro e w' ⟨rfl, hd⟩
 exact ⟨rfl, hd⟩

end Go.Proofs.Ytghnbiknghelpaa.PBtl
