-- Printed by this session's wip/myprint.py.
import Derived.Test.YtenhnlclnjnboaaPTelx45a
namespace Go.Proofs.Ytenhnlclnjnboaa.PTel
open Go.RowKit Go.Proofs.YtenhnlclnjnboaaW.PrintWords Go.Proofs.YtenhnlclnjnboaaW.PrintLast Go.Proofs.YtenhnlclnjnboaaW.PrintMore
attribute [local go_sem] max2_int min2_int max_two min_two max_three min_three max_four min_four   -- for this text's walks alone
set_option linter.unusedVariables false
set_option linter.unusedSimpArgs false
open Go.Proofs.YtenhnlclnjnboaaW.PrintWords renaming blk_drewN → qa, blk_drew → qb, blk_alloc → qc, below_set → qd, pw_below_drewN → qe, below_drew1 → qf, below_alloc → qg, blk_frozen → qh, blk_cell → qi
open Go.Proofs.YtenhnlclnjnboaaW.PrintWords.Kd renaming R_drewN → qj, R_alloc → qk, R_drew → ql
def mootlaw4_LedgerTells.T14 : Bool × List (List Nat × List Nat) := (true, [([], []), ([0], [0]), ([], []), ([], []), ([], []), ([3, 4], [3, 4]), ([5], [5]), ([6], [6]), ([], []), ([], []), ([8, 9], [8, 9]), ([10], [10]), ([11], [11]), ([], []), ([], []), ([13, 14], [13, 14]), ([15], [15]), ([16], [16]), ([2, 7, 12, 17], [2, 7, 12, 17]), ([18], [18]), ([1, 19, 1], [1, 19]), ([20, 20, 0, 1, 2, 3, 4, 5, 6, 7, 8, 9, 10, 11, 12, 13, 14, 15, 16, 17, 18, 19, 20], [20])])
def mootlaw4_LedgerTells.B14 : List Nat := [0, 1, 0, 0, 0, 24, 56, 120, 0, 0, 768, 1792, 3840, 0, 0, 24576, 57344, 122880, 262140, 524284, 1048575, 2097151]
theorem mootlaw4_LedgerTells.tab14 : rtab .any (opsOf Try.f8 14) = mootlaw4_LedgerTells.T14 := by kernel_rfl
theorem mootlaw4_LedgerTells.bits14 : waitsOk mootlaw4_LedgerTells.T14.2 mootlaw4_LedgerTells.B14 = true := by kernel_rfl
set_option maxHeartbeats 100000000 in
set_option maxRecDepth 100000 in
theorem mootlaw4_LedgerTells.calls (k : Nat) (A0 : Option Addr) (c0 : Nat) (l0 : List (S35)) (a1_0 : Int) (a1_1 : Int) (a1_2 : Int) (a1_3 : Int) (a2 : Int) (a3 : Int) (a4 : Int) (a5 : Int) (r : Bool) (w : World) (hr0 : Kd.C k35 w A0 l0.length l0) (hc0 : l0.length ≤ c0) (h : mootlaw4_LedgerTells.f k l0 a1_0 a1_1 a1_2 a1_3 a2 a3 a4 a5 = some r) :
    Calls Try.prog 8 #[.slice A0 l0.length c0, .agg #[.int .i64 a1_0, .int .i64 a1_1, .int .i64 a1_2, .int .i64 a1_3], .int .i64 a2, .int .i64 a3, .int .i64 a4, .int .i64 a5] w fun e w' => e = .returned (.bool r) ∧ Below w.heap.size w w' := by
  have hu35 := Try.underlying35
  have HR0 := Aside0.mk hr0
  have HC0 := Aside0.mk hc0
  clear hr0 hc0
  have HB := Aside0.mk (Below.refl w.heap.size w)
  have H : ((mootlaw4_posts.f k).bind fun t284 => (if t284 = true then ((mootlaw4_ledgerFault.f k l0).bind fun t285 => ((ledger_Post.f k l0 a1_0 a1_1 a1_2 a1_3).bind fun bt286 => ((ledger_Balance.f k l0 a2 a4).bind fun bt290 => ((ledger_Turnover.f k l0 a2 a3 a4).bind fun bt292 => ((ledger_Accounts.f k l0).bind fun bt295 => ((ledger_Undo.f k l0 a5 a4).bind fun bt299 => ((ledger_Entry_18.f l0).bind fun t303 => ((some (([(⟨a1_0, a1_1, a1_2, a1_3⟩ : S35)] : List (S35)) : List (S35))).bind fun y306 => (if t303.length + y306.length < 4398046511104 then ((some (t303 ++ y306 : List (S35))).bind fun y309 => ((ledger_Check.f k l0).bind fun t312 => (if t312 = t285 then ((mootlaw4_ledgerFault.f k y309).bind fun t313 => (if bt286.2 = t313 then (if bt286.2 = 0 then ((ledger_Entry_24.f k bt286.1 y309).bind fun t314 => (if t314 = true then (mootlaw4_LedgerTells.j0 k l0 a2 a5 t285 bt290.1 bt290.2 bt292.1 bt292.2.1 bt292.2.2 bt295.1 bt299.1 bt299.2 (bt295.2 != t285) a3 a4) else (mootlaw4_LedgerTells.j0 k l0 a2 a5 t285 bt290.1 bt290.2 bt292.1 bt292.2.1 bt292.2.2 bt295.1 bt299.1 bt299.2 true a3 a4))) else (if (bt286.1.length : Int) > 0 then (mootlaw4_LedgerTells.j0 k l0 a2 a5 t285 bt290.1 bt290.2 bt292.1 bt292.2.1 bt292.2.2 bt295.1 bt299.1 bt299.2 true a3 a4) else (mootlaw4_LedgerTells.j0 k l0 a2 a5 t285 bt290.1 bt290.2 bt292.1 bt292.2.1 bt292.2.2 bt295.1 bt299.1 bt299.2 (bt295.2 != t285) a3 a4))) else (mootlaw4_LedgerTells.j0 k l0 a2 a5 t285 bt290.1 bt290.2 bt292.1 bt292.2.1 bt292.2.2 bt295.1 bt299.1 bt299.2 true a3 a4))) else (mootlaw4_LedgerTells.j0 k l0 a2 a5 t285 bt290.1 bt290.2 bt292.1 bt292.2.1 bt292.2.2 bt295.1 bt299.1 bt299.2 true a3 a4)))) else (none)))))))))) else (some false))) = some r := h
  clear h
  replace H := Option.bind_eq_some_iff.mp H
  obtain ⟨t284, A70, H⟩ := H
  replace H : (if t284 = true then ((mootlaw4_ledgerFault.f k l0).bind fun t285 => ((ledger_Post.f k l0 a1_0 a1_1 a1_2 a1_3).bind fun bt286 => ((ledger_Balance.f k l0 a2 a4).bind fun bt290 => ((ledger_Turnover.f k l0 a2 a3 a4).bind fun bt292 => ((ledger_Accounts.f k l0).bind fun bt295 => ((ledger_Undo.f k l0 a5 a4).bind fun bt299 => ((ledger_Entry_18.f l0).bind fun t303 => ((some (([(⟨a1_0, a1_1, a1_2, a1_3⟩ : S35)] : List (S35)) : List (S35))).bind fun y306 => (if t303.length + y306.length < 4398046511104 then ((some (t303 ++ y306 : List (S35))).bind fun y309 => ((ledger_Check.f k l0).bind fun t312 => (if t312 = t285 then ((mootlaw4_ledgerFault.f k y309).bind fun t313 => (if bt286.2 = t313 then (if bt286.2 = 0 then ((ledger_Entry_24.f k bt286.1 y309).bind fun t314 => (if t314 = true then (mootlaw4_LedgerTells.j0 k l0 a2 a5 t285 bt290.1 bt290.2 bt292.1 bt292.2.1 bt292.2.2 bt295.1 bt299.1 bt299.2 (bt295.2 != t285) a3 a4) else (mootlaw4_LedgerTells.j0 k l0 a2 a5 t285 bt290.1 bt290.2 bt292.1 bt292.2.1 bt292.2.2 bt295.1 bt299.1 bt299.2 true a3 a4))) else (if (bt286.1.length : Int) > 0 then (mootlaw4_LedgerTells.j0 k l0 a2 a5 t285 bt290.1 bt290.2 bt292.1 bt292.2.1 bt292.2.2 bt295.1 bt299.1 bt299.2 true a3 a4) else (mootlaw4_LedgerTells.j0 k l0 a2 a5 t285 bt290.1 bt290.2 bt292.1 bt292.2.1 bt292.2.2 bt295.1 bt299.1 bt299.2 (bt295.2 != t285) a3 a4))) else (mootlaw4_LedgerTells.j0 k l0 a2 a5 t285 bt290.1 bt290.2 bt292.1 bt292.2.1 bt292.2.2 bt295.1 bt299.1 bt299.2 true a3 a4))) else (mootlaw4_LedgerTells.j0 k l0 a2 a5 t285 bt290.1 bt290.2 bt292.1 bt292.2.1 bt292.2.2 bt295.1 bt299.1 bt299.2 true a3 a4)))) else (none)))))))))) else (some false)) = some r := H
  have A7 := Aside0.mk A70
  clear A70
  by_cases c8 : t284 = true
  · subst c8
    have H1 : ((mootlaw4_ledgerFault.f k l0).bind fun t285 => ((ledger_Post.f k l0 a1_0 a1_1 a1_2 a1_3).bind fun bt286 => ((ledger_Balance.f k l0 a2 a4).bind fun bt290 => ((ledger_Turnover.f k l0 a2 a3 a4).bind fun bt292 => ((ledger_Accounts.f k l0).bind fun bt295 => ((ledger_Undo.f k l0 a5 a4).bind fun bt299 => ((ledger_Entry_18.f l0).bind fun t303 => ((some (([(⟨a1_0, a1_1, a1_2, a1_3⟩ : S35)] : List (S35)) : List (S35))).bind fun y306 => (if t303.length + y306.length < 4398046511104 then ((some (t303 ++ y306 : List (S35))).bind fun y309 => ((ledger_Check.f k l0).bind fun t312 => (if t312 = t285 then ((mootlaw4_ledgerFault.f k y309).bind fun t313 => (if bt286.2 = t313 then (if bt286.2 = 0 then ((ledger_Entry_24.f k bt286.1 y309).bind fun t314 => (if t314 = true then (mootlaw4_LedgerTells.j0 k l0 a2 a5 t285 bt290.1 bt290.2 bt292.1 bt292.2.1 bt292.2.2 bt295.1 bt299.1 bt299.2 (bt295.2 != t285) a3 a4) else (mootlaw4_LedgerTells.j0 k l0 a2 a5 t285 bt290.1 bt290.2 bt292.1 bt292.2.1 bt292.2.2 bt295.1 bt299.1 bt299.2 true a3 a4))) else (if (bt286.1.length : Int) > 0 then (mootlaw4_LedgerTells.j0 k l0 a2 a5 t285 bt290.1 bt290.2 bt292.1 bt292.2.1 bt292.2.2 bt295.1 bt299.1 bt299.2 true a3 a4) else (mootlaw4_LedgerTells.j0 k l0 a2 a5 t285 bt290.1 bt290.2 bt292.1 bt292.2.1 bt292.2.2 bt295.1 bt299.1 bt299.2 (bt295.2 != t285) a3 a4))) else (mootlaw4_LedgerTells.j0 k l0 a2 a5 t285 bt290.1 bt290.2 bt292.1 bt292.2.1 bt292.2.2 bt295.1 bt299.1 bt299.2 true a3 a4))) else (mootlaw4_LedgerTells.j0 k l0 a2 a5 t285 bt290.1 bt290.2 bt292.1 bt292.2.1 bt292.2.2 bt295.1 bt299.1 bt299.2 true a3 a4)))) else (none)))))))))) = some r := by rw [if_pos rfl] at H; exact H
    clear H
    have H := H1
    clear H1
    replace H := Option.bind_eq_some_iff.mp H
    obtain ⟨t285, A90, H⟩ := H
    replace H : ((ledger_Post.f k l0 a1_0 a1_1 a1_2 a1_3).bind fun bt286 => ((ledger_Balance.f k l0 a2 a4).bind fun bt290 => ((ledger_Turnover.f k l0 a2 a3 a4).bind fun bt292 => ((ledger_Accounts.f k l0).bind fun bt295 => ((ledger_Undo.f k l0 a5 a4).bind fun bt299 => ((ledger_Entry_18.f l0).bind fun t303 => ((some (([(⟨a1_0, a1_1, a1_2, a1_3⟩ : S35)] : List (S35)) : List (S35))).bind fun y306 => (if t303.length + y306.length < 4398046511104 then ((some (t303 ++ y306 : List (S35))).bind fun y309 => ((ledger_Check.f k l0).bind fun t312 => (if t312 = t285 then ((mootlaw4_ledgerFault.f k y309).bind fun t313 => (if bt286.2 = t313 then (if bt286.2 = 0 then ((ledger_Entry_24.f k bt286.1 y309).bind fun t314 => (if t314 = true then (mootlaw4_LedgerTells.j0 k l0 a2 a5 t285 bt290.1 bt290.2 bt292.1 bt292.2.1 bt292.2.2 bt295.1 bt299.1 bt299.2 (bt295.2 != t285) a3 a4) else (mootlaw4_LedgerTells.j0 k l0 a2 a5 t285 bt290.1 bt290.2 bt292.1 bt292.2.1 bt292.2.2 bt295.1 bt299.1 bt299.2 true a3 a4))) else (if (bt286.1.length : Int) > 0 then (mootlaw4_LedgerTells.j0 k l0 a2 a5 t285 bt290.1 bt290.2 bt292.1 bt292.2.1 bt292.2.2 bt295.1 bt299.1 bt299.2 true a3 a4) else (mootlaw4_LedgerTells.j0 k l0 a2 a5 t285 bt290.1 bt290.2 bt292.1 bt292.2.1 bt292.2.2 bt295.1 bt299.1 bt299.2 (bt295.2 != t285) a3 a4))) else (mootlaw4_LedgerTells.j0 k l0 a2 a5 t285 bt290.1 bt290.2 bt292.1 bt292.2.1 bt292.2.2 bt295.1 bt299.1 bt299.2 true a3 a4))) else (mootlaw4_LedgerTells.j0 k l0 a2 a5 t285 bt290.1 bt290.2 bt292.1 bt292.2.1 bt292.2.2 bt295.1 bt299.1 bt299.2 true a3 a4)))) else (none))))))))) = some r := H
    have A9 := Aside0.mk A90
    clear A90
    replace H := Option.bind_eq_some_iff.mp H
    obtain ⟨⟨t286, t289⟩, A100, H⟩ := H
    replace H : ((ledger_Balance.f k l0 a2 a4).bind fun bt290 => ((ledger_Turnover.f k l0 a2 a3 a4).bind fun bt292 => ((ledger_Accounts.f k l0).bind fun bt295 => ((ledger_Undo.f k l0 a5 a4).bind fun bt299 => ((ledger_Entry_18.f l0).bind fun t303 => ((some (([(⟨a1_0, a1_1, a1_2, a1_3⟩ : S35)] : List (S35)) : List (S35))).bind fun y306 => (if t303.length + y306.length < 4398046511104 then ((some (t303 ++ y306 : List (S35))).bind fun y309 => ((ledger_Check.f k l0).bind fun t312 => (if t312 = t285 then ((mootlaw4_ledgerFault.f k y309).bind fun t313 => (if t289 = t313 then (if t289 = 0 then ((ledger_Entry_24.f k t286 y309).bind fun t314 => (if t314 = true then (mootlaw4_LedgerTells.j0 k l0 a2 a5 t285 bt290.1 bt290.2 bt292.1 bt292.2.1 bt292.2.2 bt295.1 bt299.1 bt299.2 (bt295.2 != t285) a3 a4) else (mootlaw4_LedgerTells.j0 k l0 a2 a5 t285 bt290.1 bt290.2 bt292.1 bt292.2.1 bt292.2.2 bt295.1 bt299.1 bt299.2 true a3 a4))) else (if (t286.length : Int) > 0 then (mootlaw4_LedgerTells.j0 k l0 a2 a5 t285 bt290.1 bt290.2 bt292.1 bt292.2.1 bt292.2.2 bt295.1 bt299.1 bt299.2 true a3 a4) else (mootlaw4_LedgerTells.j0 k l0 a2 a5 t285 bt290.1 bt290.2 bt292.1 bt292.2.1 bt292.2.2 bt295.1 bt299.1 bt299.2 (bt295.2 != t285) a3 a4))) else (mootlaw4_LedgerTells.j0 k l0 a2 a5 t285 bt290.1 bt290.2 bt292.1 bt292.2.1 bt292.2.2 bt295.1 bt299.1 bt299.2 true a3 a4))) else (mootlaw4_LedgerTells.j0 k l0 a2 a5 t285 bt290.1 bt290.2 bt292.1 bt292.2.1 bt292.2.2 bt295.1 bt299.1 bt299.2 true a3 a4)))) else (none)))))))) = some r := H
    have A10 := Aside0.mk A100
    clear A100
    replace H := Option.bind_eq_some_iff.mp H
    obtain ⟨⟨t290, t291⟩, A110, H⟩ := H
    replace H : ((ledger_Turnover.f k l0 a2 a3 a4).bind fun bt292 => ((ledger_Accounts.f k l0).bind fun bt295 => ((ledger_Undo.f k l0 a5 a4).bind fun bt299 => ((ledger_Entry_18.f l0).bind fun t303 => ((some (([(⟨a1_0, a1_1, a1_2, a1_3⟩ : S35)] : List (S35)) : List (S35))).bind fun y306 => (if t303.length + y306.length < 4398046511104 then ((some (t303 ++ y306 : List (S35))).bind fun y309 => ((ledger_Check.f k l0).bind fun t312 => (if t312 = t285 then ((mootlaw4_ledgerFault.f k y309).bind fun t313 => (if t289 = t313 then (if t289 = 0 then ((ledger_Entry_24.f k t286 y309).bind fun t314 => (if t314 = true then (mootlaw4_LedgerTells.j0 k l0 a2 a5 t285 t290 t291 bt292.1 bt292.2.1 bt292.2.2 bt295.1 bt299.1 bt299.2 (bt295.2 != t285) a3 a4) else (mootlaw4_LedgerTells.j0 k l0 a2 a5 t285 t290 t291 bt292.1 bt292.2.1 bt292.2.2 bt295.1 bt299.1 bt299.2 true a3 a4))) else (if (t286.length : Int) > 0 then (mootlaw4_LedgerTells.j0 k l0 a2 a5 t285 t290 t291 bt292.1 bt292.2.1 bt292.2.2 bt295.1 bt299.1 bt299.2 true a3 a4) else (mootlaw4_LedgerTells.j0 k l0 a2 a5 t285 t290 t291 bt292.1 bt292.2.1 bt292.2.2 bt295.1 bt299.1 bt299.2 (bt295.2 != t285) a3 a4))) else (mootlaw4_LedgerTells.j0 k l0 a2 a5 t285 t290 t291 bt292.1 bt292.2.1 bt292.2.2 bt295.1 bt299.1 bt299.2 true a3 a4))) else (mootlaw4_LedgerTells.j0 k l0 a2 a5 t285 t290 t291 bt292.1 bt292.2.1 bt292.2.2 bt295.1 bt299.1 bt299.2 true a3 a4)))) else (none))))))) = some r := H
    have A11 := Aside0.mk A110
    clear A110
    replace H := Option.bind_eq_some_iff.mp H
    obtain ⟨⟨t292, t293, t294⟩, A120, H⟩ := H
    replace H : ((ledger_Accounts.f k l0).bind fun bt295 => ((ledger_Undo.f k l0 a5 a4).bind fun bt299 => ((ledger_Entry_18.f l0).bind fun t303 => ((some (([(⟨a1_0, a1_1, a1_2, a1_3⟩ : S35)] : List (S35)) : List (S35))).bind fun y306 => (if t303.length + y306.length < 4398046511104 then ((some (t303 ++ y306 : List (S35))).bind fun y309 => ((ledger_Check.f k l0).bind fun t312 => (if t312 = t285 then ((mootlaw4_ledgerFault.f k y309).bind fun t313 => (if t289 = t313 then (if t289 = 0 then ((ledger_Entry_24.f k t286 y309).bind fun t314 => (if t314 = true then (mootlaw4_LedgerTells.j0 k l0 a2 a5 t285 t290 t291 t292 t293 t294 bt295.1 bt299.1 bt299.2 (bt295.2 != t285) a3 a4) else (mootlaw4_LedgerTells.j0 k l0 a2 a5 t285 t290 t291 t292 t293 t294 bt295.1 bt299.1 bt299.2 true a3 a4))) else (if (t286.length : Int) > 0 then (mootlaw4_LedgerTells.j0 k l0 a2 a5 t285 t290 t291 t292 t293 t294 bt295.1 bt299.1 bt299.2 true a3 a4) else (mootlaw4_LedgerTells.j0 k l0 a2 a5 t285 t290 t291 t292 t293 t294 bt295.1 bt299.1 bt299.2 (bt295.2 != t285) a3 a4))) else (mootlaw4_LedgerTells.j0 k l0 a2 a5 t285 t290 t291 t292 t293 t294 bt295.1 bt299.1 bt299.2 true a3 a4))) else (mootlaw4_LedgerTells.j0 k l0 a2 a5 t285 t290 t291 t292 t293 t294 bt295.1 bt299.1 bt299.2 true a3 a4)))) else (none)))))) = some r := H
    have A12 := Aside0.mk A120
    clear A120
    replace H := Option.bind_eq_some_iff.mp H
    obtain ⟨⟨t295, t296⟩, A130, H⟩ := H
    replace H : ((ledger_Undo.f k l0 a5 a4).bind fun bt299 => ((ledger_Entry_18.f l0).bind fun t303 => ((some (([(⟨a1_0, a1_1, a1_2, a1_3⟩ : S35)] : List (S35)) : List (S35))).bind fun y306 => (if t303.length + y306.length < 4398046511104 then ((some (t303 ++ y306 : List (S35))).bind fun y309 => ((ledger_Check.f k l0).bind fun t312 => (if t312 = t285 then ((mootlaw4_ledgerFault.f k y309).bind fun t313 => (if t289 = t313 then (if t289 = 0 then ((ledger_Entry_24.f k t286 y309).bind fun t314 => (if t314 = true then (mootlaw4_LedgerTells.j0 k l0 a2 a5 t285 t290 t291 t292 t293 t294 t295 bt299.1 bt299.2 (t296 != t285) a3 a4) else (mootlaw4_LedgerTells.j0 k l0 a2 a5 t285 t290 t291 t292 t293 t294 t295 bt299.1 bt299.2 true a3 a4))) else (if (t286.length : Int) > 0 then (mootlaw4_LedgerTells.j0 k l0 a2 a5 t285 t290 t291 t292 t293 t294 t295 bt299.1 bt299.2 true a3 a4) else (mootlaw4_LedgerTells.j0 k l0 a2 a5 t285 t290 t291 t292 t293 t294 t295 bt299.1 bt299.2 (t296 != t285) a3 a4))) else (mootlaw4_LedgerTells.j0 k l0 a2 a5 t285 t290 t291 t292 t293 t294 t295 bt299.1 bt299.2 true a3 a4))) else (mootlaw4_LedgerTells.j0 k l0 a2 a5 t285 t290 t291 t292 t293 t294 t295 bt299.1 bt299.2 true a3 a4)))) else (none))))) = some r := H
    have A13 := Aside0.mk A130
    clear A130
    replace H := Option.bind_eq_some_iff.mp H
    obtain ⟨⟨t299, t300⟩, A140, H⟩ := H
    replace H : ((ledger_Entry_18.f l0).bind fun t303 => ((some (([(⟨a1_0, a1_1, a1_2, a1_3⟩ : S35)] : List (S35)) : List (S35))).bind fun y306 => (if t303.length + y306.length < 4398046511104 then ((some (t303 ++ y306 : List (S35))).bind fun y309 => ((ledger_Check.f k l0).bind fun t312 => (if t312 = t285 then ((mootlaw4_ledgerFault.f k y309).bind fun t313 => (if t289 = t313 then (if t289 = 0 then ((ledger_Entry_24.f k t286 y309).bind fun t314 => (if t314 = true then (mootlaw4_LedgerTells.j0 k l0 a2 a5 t285 t290 t291 t292 t293 t294 t295 t299 t300 (t296 != t285) a3 a4) else (mootlaw4_LedgerTells.j0 k l0 a2 a5 t285 t290 t291 t292 t293 t294 t295 t299 t300 true a3 a4))) else (if (t286.length : Int) > 0 then (mootlaw4_LedgerTells.j0 k l0 a2 a5 t285 t290 t291 t292 t293 t294 t295 t299 t300 true a3 a4) else (mootlaw4_LedgerTells.j0 k l0 a2 a5 t285 t290 t291 t292 t293 t294 t295 t299 t300 (t296 != t285) a3 a4))) else (mootlaw4_LedgerTells.j0 k l0 a2 a5 t285 t290 t291 t292 t293 t294 t295 t299 t300 true a3 a4))) else (mootlaw4_LedgerTells.j0 k l0 a2 a5 t285 t290 t291 t292 t293 t294 t295 t299 t300 true a3 a4)))) else (none)))) = some r := H
    have A14 := Aside0.mk A140
    clear A140
    replace H := Option.bind_eq_some_iff.mp H
    obtain ⟨t303, A150, H⟩ := H
    replace H : ((some (([(⟨a1_0, a1_1, a1_2, a1_3⟩ : S35)] : List (S35)) : List (S35))).bind fun y306 => (if t303.length + y306.length < 4398046511104 then ((some (t303 ++ y306 : List (S35))).bind fun y309 => ((ledger_Check.f k l0).bind fun t312 => (if t312 = t285 then ((mootlaw4_ledgerFault.f k y309).bind fun t313 => (if t289 = t313 then (if t289 = 0 then ((ledger_Entry_24.f k t286 y309).bind fun t314 => (if t314 = true then (mootlaw4_LedgerTells.j0 k l0 a2 a5 t285 t290 t291 t292 t293 t294 t295 t299 t300 (t296 != t285) a3 a4) else (mootlaw4_LedgerTells.j0 k l0 a2 a5 t285 t290 t291 t292 t293 t294 t295 t299 t300 true a3 a4))) else (if (t286.length : Int) > 0 then (mootlaw4_LedgerTells.j0 k l0 a2 a5 t285 t290 t291 t292 t293 t294 t295 t299 t300 true a3 a4) else (mootlaw4_LedgerTells.j0 k l0 a2 a5 t285 t290 t291 t292 t293 t294 t295 t299 t300 (t296 != t285) a3 a4))) else (mootlaw4_LedgerTells.j0 k l0 a2 a5 t285 t290 t291 t292 t293 t294 t295 t299 t300 true a3 a4))) else (mootlaw4_LedgerTells.j0 k l0 a2 a5 t285 t290 t291 t292 t293 t294 t295 t299 t300 true a3 a4)))) else (none))) = some r := H
    have A15 := Aside0.mk A150
    clear A150
    obtain ⟨y306, hy306⟩ : ∃ y_ : List (S35), y_ = (([(⟨a1_0, a1_1, a1_2, a1_3⟩ : S35)] : List (S35))) := ⟨_, rfl⟩
    replace H : (if t303.length + y306.length < 4398046511104 then ((some (t303 ++ y306 : List (S35))).bind fun y309 => ((ledger_Check.f k l0).bind fun t312 => (if t312 = t285 then ((mootlaw4_ledgerFault.f k y309).bind fun t313 => (if t289 = t313 then (if t289 = 0 then ((ledger_Entry_24.f k t286 y309).bind fun t314 => (if t314 = true then (mootlaw4_LedgerTells.j0 k l0 a2 a5 t285 t290 t291 t292 t293 t294 t295 t299 t300 (t296 != t285) a3 a4) else (mootlaw4_LedgerTells.j0 k l0 a2 a5 t285 t290 t291 t292 t293 t294 t295 t299 t300 true a3 a4))) else (if (t286.length : Int) > 0 then (mootlaw4_LedgerTells.j0 k l0 a2 a5 t285 t290 t291 t292 t293 t294 t295 t299 t300 true a3 a4) else (mootlaw4_LedgerTells.j0 k l0 a2 a5 t285 t290 t291 t292 t293 t294 t295 t299 t300 (t296 != t285) a3 a4))) else (mootlaw4_LedgerTells.j0 k l0 a2 a5 t285 t290 t291 t292 t293 t294 t295 t299 t300 true a3 a4))) else (mootlaw4_LedgerTells.j0 k l0 a2 a5 t285 t290 t291 t292 t293 t294 t295 t299 t300 true a3 a4)))) else (none)) = some r := by first | (rw [hy306]; with_reducible exact H) | (have H2_ := (Option.bind_some _ _).symm.trans H; rw [hy306]; with_reducible exact H2_) | (have H2_ := (Option.bind_some _ _).symm.trans H; with_reducible exact H2_) | with_reducible exact H | (rw [hy306]; exact H) | exact H
    have Ny306 := Aside0.mk hy306
    clear hy306
    by_cases c16 : t303.length + y306.length < 4398046511104
    · rw [if_pos c16] at H
      have LMc16 := Aside0.mk c16
      clear c16
      obtain ⟨y309, hy309⟩ : ∃ y_ : List (S35), y_ = (t303 ++ y306) := ⟨_, rfl⟩
      replace H : ((ledger_Check.f k l0).bind fun t312 => (if t312 = t285 then ((mootlaw4_ledgerFault.f k y309).bind fun t313 => (if t289 = t313 then (if t289 = 0 then ((ledger_Entry_24.f k t286 y309).bind fun t314 => (if t314 = true then (mootlaw4_LedgerTells.j0 k l0 a2 a5 t285 t290 t291 t292 t293 t294 t295 t299 t300 (t296 != t285) a3 a4) else (mootlaw4_LedgerTells.j0 k l0 a2 a5 t285 t290 t291 t292 t293 t294 t295 t299 t300 true a3 a4))) else (if (t286.length : Int) > 0 then (mootlaw4_LedgerTells.j0 k l0 a2 a5 t285 t290 t291 t292 t293 t294 t295 t299 t300 true a3 a4) else (mootlaw4_LedgerTells.j0 k l0 a2 a5 t285 t290 t291 t292 t293 t294 t295 t299 t300 (t296 != t285) a3 a4))) else (mootlaw4_LedgerTells.j0 k l0 a2 a5 t285 t290 t291 t292 t293 t294 t295 t299 t300 true a3 a4))) else (mootlaw4_LedgerTells.j0 k l0 a2 a5 t285 t290 t291 t292 t293 t294 t295 t299 t300 true a3 a4))) = some r := by first | (rw [hy309]; with_reducible exact H) | (have H2_ := (Option.bind_some _ _).symm.trans H; rw [hy309]; with_reducible exact H2_) | (have H2_ := (Option.bind_some _ _).symm.trans H; with_reducible exact H2_) | with_reducible exact H | (rw [hy309]; exact H) | exact H
      have Ny309 := Aside0.mk hy309
      clear hy309
      have HC17 := Aside0.mk H
      clear H
      go_enter Try.func8, Try.ntmps8
      try go_wp2_with (first | ((with_reducible refine gate_dst (N := 7) rfl ?_); (try (refine gate_guard (by rfl) ?_; dsimp only)); refine box_event ?hg (N := 7) ?hd (cs := #[.int .i64 a1_0, .int .i64 a1_1, .int .i64 a1_2, .int .i64 a1_3]) (t := 35) ?hr ?_; (case hd => rfl); (case hg => rfl); (case hr => first | (go_simp; done) | (go_simp; rfl)); intro gb281 hg w18 hbox hb; have n0_ := Aside0.mk (below_step (by repeat (first | (with_reducible first | exact HB.out | apply qg | apply qe | apply qf) | exact HB.out)) hb); have n1_ := Aside0.mk (hbox); have n2_ := Aside0.mk ((by rw [hg]; exact (below_size (by repeat (first | (with_reducible first | exact HB.out | apply qg | apply qe | apply qf) | exact HB.out))) : w.heap.size ≤ gb281)); have n3_ := Aside0.mk ((by rw [hg]; exact (below_size (by repeat (first | (with_reducible first | exact HB.out | apply qg | apply qe | apply qf) | exact HB.out))) : w.heap.size ≤ gb281)); clear HB; have HB := n0_; have BK281 := n1_; have GW281 := n2_; have GE281 := n3_; clear n0_ n1_ n2_ n3_; clear hb hbox hg) | ((with_reducible refine gate_dst (N := 9) rfl ?_); (try (refine gate_guard (by rfl) ?_; dsimp only)); refine box_event ?hg (N := 9) ?hd (cs := #[.int .i64 a3]) (t := 3) ?hr ?_; (case hd => rfl); (case hg => rfl); (case hr => first | (go_simp; done) | (go_simp; rfl)); intro gb282 hg w19 hbox hb; have n0_ := Aside0.mk (blk_below (g := gb281) (o := .cells #[.int .i64 a1_0, .int .i64 a1_1, .int .i64 a1_2, .int .i64 a1_3] 35 (0, 0)) (by (with_reducible repeat (first | refine qa ?_ _ | refine qb ?_ | refine qc ?_ _)); exact BK281.out) hb); have n1_ := Aside0.mk (below_step (by repeat (first | (with_reducible first | exact HB.out | apply qg | apply qe | apply qf | refine qd ?_ GE281.out) | exact HB.out)) hb); have n2_ := Aside0.mk (hbox); have n3_ := Aside0.mk ((by rw [hg]; exact (below_size (by repeat (first | (with_reducible first | exact HB.out | apply qg | apply qe | apply qf | refine qd ?_ GE281.out) | exact HB.out))) : w.heap.size ≤ gb282)); have n4_ := Aside0.mk ((by rw [hg]; exact (below_size (by repeat (first | (with_reducible first | exact HB.out | apply qg | apply qe | apply qf | refine qd ?_ GE281.out) | exact HB.out))) : w.heap.size ≤ gb282)); have n5_ := Aside0.mk ((by rw [hg]; exact Nat.ne_of_lt (blk_lt (g := gb281) (o := .cells #[.int .i64 a1_0, .int .i64 a1_1, .int .i64 a1_2, .int .i64 a1_3] 35 (0, 0)) (by (with_reducible repeat (first | refine qa ?_ _ | refine qb ?_ | refine qc ?_ _)); exact BK281.out)) : gb281 ≠ gb282)); have n6_ := Aside0.mk ((by rw [hg]; exact Nat.ne_of_gt (blk_lt (g := gb281) (o := .cells #[.int .i64 a1_0, .int .i64 a1_1, .int .i64 a1_2, .int .i64 a1_3] 35 (0, 0)) (by (with_reducible repeat (first | refine qa ?_ _ | refine qb ?_ | refine qc ?_ _)); exact BK281.out)) : gb282 ≠ gb281)); clear BK281; clear HB; have BK281 := n0_; have HB := n1_; have BK282 := n2_; have GW282 := n3_; have GE282 := n4_; have NB281_282 := n5_; have NB282_281 := n6_; clear n0_ n1_ n2_ n3_ n4_ n5_ n6_; clear hb hbox hg) | ((with_reducible refine gate_dst (N := 10) rfl ?_); (try (refine gate_guard (by rfl) ?_; dsimp only)); refine box_event ?hg (N := 10) ?hd (cs := #[.int .i64 a4]) (t := 3) ?hr ?_; (case hd => rfl); (case hg => rfl); (case hr => first | (go_simp; done) | (go_simp; rfl)); intro gb283 hg w20 hbox hb; have n0_ := Aside0.mk (blk_below (g := gb281) (o := .cells #[.int .i64 a1_0, .int .i64 a1_1, .int .i64 a1_2, .int .i64 a1_3] 35 (0, 0)) (by (with_reducible repeat (first | refine qa ?_ _ | refine qb ?_ | refine qc ?_ _)); exact BK281.out) hb); have n1_ := Aside0.mk (blk_below (g := gb282) (o := .cells #[.int .i64 a3] 3 (0, 0)) (by (with_reducible repeat (first | refine qa ?_ _ | refine qb ?_ | refine qc ?_ _)); exact BK282.out) hb); have n2_ := Aside0.mk (below_step (by repeat (first | (with_reducible first | exact HB.out | apply qg | apply qe | apply qf | refine qd ?_ GE281.out | refine qd ?_ GE282.out) | exact HB.out)) hb); have n3_ := Aside0.mk (hbox); have n4_ := Aside0.mk ((by rw [hg]; exact (below_size (by repeat (first | (with_reducible first | exact HB.out | apply qg | apply qe | apply qf | refine qd ?_ GE281.out | refine qd ?_ GE282.out) | exact HB.out))) : w.heap.size ≤ gb283)); have n5_ := Aside0.mk ((by rw [hg]; exact (below_size (by repeat (first | (with_reducible first | exact HB.out | apply qg | apply qe | apply qf | refine qd ?_ GE281.out | refine qd ?_ GE282.out) | exact HB.out))) : w.heap.size ≤ gb283)); have n6_ := Aside0.mk ((by rw [hg]; exact Nat.ne_of_lt (blk_lt (g := gb281) (o := .cells #[.int .i64 a1_0, .int .i64 a1_1, .int .i64 a1_2, .int .i64 a1_3] 35 (0, 0)) (by (with_reducible repeat (first | refine qa ?_ _ | refine qb ?_ | refine qc ?_ _)); exact BK281.out)) : gb281 ≠ gb283)); have n7_ := Aside0.mk ((by rw [hg]; exact Nat.ne_of_gt (blk_lt (g := gb281) (o := .cells #[.int .i64 a1_0, .int .i64 a1_1, .int .i64 a1_2, .int .i64 a1_3] 35 (0, 0)) (by (with_reducible repeat (first | refine qa ?_ _ | refine qb ?_ | refine qc ?_ _)); exact BK281.out)) : gb283 ≠ gb281)); have n8_ := Aside0.mk ((by rw [hg]; exact Nat.ne_of_lt (blk_lt (g := gb282) (o := .cells #[.int .i64 a3] 3 (0, 0)) (by (with_reducible repeat (first | refine qa ?_ _ | refine qb ?_ | refine qc ?_ _)); exact BK282.out)) : gb282 ≠ gb283)); have n9_ := Aside0.mk ((by rw [hg]; exact Nat.ne_of_gt (blk_lt (g := gb282) (o := .cells #[.int .i64 a3] 3 (0, 0)) (by (with_reducible repeat (first | refine qa ?_ _ | refine qb ?_ | refine qc ?_ _)); exact BK282.out)) : gb283 ≠ gb282)); clear BK281; clear BK282; clear HB; have BK281 := n0_; have BK282 := n1_; have HB := n2_; have BK283 := n3_; have GW283 := n4_; have GE283 := n5_; have NB281_283 := n6_; have NB283_281 := n7_; have NB282_283 := n8_; have NB283_282 := n9_; clear n0_ n1_ n2_ n3_ n4_ n5_ n6_ n7_ n8_ n9_; clear hb hbox hg) | ((with_reducible refine gate_callee (f := 19) rfl ?_); refine goesL_ (some 35) rfl rfl Try.func19 (by kernel_rfl) rfl #[] rfl (by (try simp only [List.map_toArray, List.map_cons, List.map_nil]); first | done | rfl | (simp only [List.length_drop, List.length_take]; rfl)) ?_; (with_reducible refine (mootlaw4_posts.calls k  true _ A7.out).mono ?_); rintro e w21 ⟨rfl, hb⟩; refine ⟨_, rfl, ?_⟩; have n0_ := Aside0.mk (blk_below (g := gb281) (o := .cells #[.int .i64 a1_0, .int .i64 a1_1, .int .i64 a1_2, .int .i64 a1_3] 35 (0, 0)) (by (with_reducible repeat (first | refine qa ?_ _ | refine qb ?_ | refine qc ?_ _)); exact BK281.out) hb); have n1_ := Aside0.mk (blk_below (g := gb282) (o := .cells #[.int .i64 a3] 3 (0, 0)) (by (with_reducible repeat (first | refine qa ?_ _ | refine qb ?_ | refine qc ?_ _)); exact BK282.out) hb); have n2_ := Aside0.mk (blk_below (g := gb283) (o := .cells #[.int .i64 a4] 3 (0, 0)) (by (with_reducible repeat (first | refine qa ?_ _ | refine qb ?_ | refine qc ?_ _)); exact BK283.out) hb); have n3_ := Aside0.mk (below_step (by repeat (first | (with_reducible first | exact HB.out | apply qg | apply qe | apply qf | refine qd ?_ GE281.out | refine qd ?_ GE282.out | refine qd ?_ GE283.out) | exact HB.out)) hb); clear BK281; clear BK282; clear BK283; clear HB; have BK281 := n0_; have BK282 := n1_; have BK283 := n2_; have HB := n3_; clear n0_ n1_ n2_ n3_; (try clear hb); (try clear hb2); (try clear hk); (try clear hi)) | ((with_reducible refine gate_callee (f := 21) rfl ?_); refine goesL_ (some 38) rfl rfl Try.func21 (by kernel_rfl) rfl #[.slice A0 l0.length c0] rfl (by (try simp only [List.map_toArray, List.map_cons, List.map_nil]); first | done | rfl | (simp only [List.length_drop, List.length_take]; rfl)) ?_; (with_reducible refine (mootlaw4_ledgerFault.calls k _ _ l0 t285 _ ?side1 ?side2 A9.out).mono ?_); (case side1 => repeat (first | exact (Kd.C_below HR0.out HB.out) | (with_reducible refine Kd.C_alloc ?_ _) | (with_reducible refine Kd.C_drewN ?_ _) | (with_reducible refine Kd.C_drew ?_))); (case side2 => exact HC0.out); rintro e w22 ⟨rfl, hb⟩; refine ⟨_, rfl, ?_⟩; have n0_ := Aside0.mk (blk_below (g := gb281) (o := .cells #[.int .i64 a1_0, .int .i64 a1_1, .int .i64 a1_2, .int .i64 a1_3] 35 (0, 0)) (by (with_reducible repeat (first | refine qa ?_ _ | refine qb ?_ | refine qc ?_ _)); exact BK281.out) hb); have n1_ := Aside0.mk (blk_below (g := gb282) (o := .cells #[.int .i64 a3] 3 (0, 0)) (by (with_reducible repeat (first | refine qa ?_ _ | refine qb ?_ | refine qc ?_ _)); exact BK282.out) hb); have n2_ := Aside0.mk (blk_below (g := gb283) (o := .cells #[.int .i64 a4] 3 (0, 0)) (by (with_reducible repeat (first | refine qa ?_ _ | refine qb ?_ | refine qc ?_ _)); exact BK283.out) hb); have n3_ := Aside0.mk (below_step (by repeat (first | (with_reducible first | exact HB.out | apply qg | apply qe | apply qf | refine qd ?_ GE281.out | refine qd ?_ GE282.out | refine qd ?_ GE283.out) | exact HB.out)) hb); clear BK281; clear BK282; clear BK283; clear HB; have BK281 := n0_; have BK282 := n1_; have BK283 := n2_; have HB := n3_; clear n0_ n1_ n2_ n3_; (try clear hb); (try clear hb2); (try clear hk); (try clear hi); have hnb23 := NB281_282.out; have hnc23 := NB282_281.out; have hnb24 := NB281_283.out; have hnc24 := NB283_281.out; have hcz25_0 : w22.cell? ⟨gb281, 0, none⟩ = some (.int .i64 a1_0) := (qi BK281.out 0).trans rfl; have hcz25_1 : w22.cell? ⟨gb281, 1, none⟩ = some (.int .i64 a1_1) := (qi BK281.out 1).trans rfl; have hcz25_2 : w22.cell? ⟨gb281, 2, none⟩ = some (.int .i64 a1_2) := (qi BK281.out 2).trans rfl; have hcz25_3 : w22.cell? ⟨gb281, 3, none⟩ = some (.int .i64 a1_3) := (qi BK281.out 3).trans rfl; have hfz25_0 := qh BK281.out 0; have hfz25_1 := qh BK281.out 1; have hfz25_2 := qh BK281.out 2; have hfz25_3 := qh BK281.out 3) | ((with_reducible refine gate_callee (f := 29) rfl ?_); refine goesL_ (some 42) rfl rfl Try.func29 (by kernel_rfl) rfl #[.slice A0 l0.length c0, .agg #[.int .i64 a1_0, .int .i64 a1_1, .int .i64 a1_2, .int .i64 a1_3]] rfl (by (try simp only [List.map_toArray, List.map_cons, List.map_nil]); first | done | rfl | (simp only [List.length_drop, List.length_take]; rfl)) ?_; (with_reducible refine (ledger_Post.calls k _ _ l0 a1_0 a1_1 a1_2 a1_3 t286 t289 _ ?side1 ?side2 A10.out).mono ?_); (case side1 => repeat (first | exact (Kd.C_below HR0.out HB.out) | (with_reducible refine Kd.C_alloc ?_ _) | (with_reducible refine Kd.C_drewN ?_ _) | (with_reducible refine Kd.C_drew ?_))); (case side2 => exact HC0.out); rintro e w26 ⟨v287, rfl, ho0, hb⟩; refine ⟨_, rfl, ?_⟩; have n0_ := Aside0.mk (Kd.R_lower (Kd.R_newB ho0 (g := gb281) (o := .cells #[.int .i64 a1_0, .int .i64 a1_1, .int .i64 a1_2, .int .i64 a1_3] 35 (0, 0)) (by (with_reducible repeat (first | refine qa ?_ _ | refine qb ?_ | refine qc ?_ _)); exact BK281.out)) (below_size (by repeat (first | (with_reducible first | exact HB.out | apply qg | apply qe | apply qf | refine qd ?_ GE281.out | refine qd ?_ GE282.out | refine qd ?_ GE283.out) | exact HB.out)))); have n1_ := Aside0.mk (blk_below (g := gb281) (o := .cells #[.int .i64 a1_0, .int .i64 a1_1, .int .i64 a1_2, .int .i64 a1_3] 35 (0, 0)) (by (with_reducible repeat (first | refine qa ?_ _ | refine qb ?_ | refine qc ?_ _)); exact BK281.out) hb); have n2_ := Aside0.mk (blk_below (g := gb282) (o := .cells #[.int .i64 a3] 3 (0, 0)) (by (with_reducible repeat (first | refine qa ?_ _ | refine qb ?_ | refine qc ?_ _)); exact BK282.out) hb); have n3_ := Aside0.mk (blk_below (g := gb283) (o := .cells #[.int .i64 a4] 3 (0, 0)) (by (with_reducible repeat (first | refine qa ?_ _ | refine qb ?_ | refine qc ?_ _)); exact BK283.out) hb); have n4_ := Aside0.mk (below_step (by repeat (first | (with_reducible first | exact HB.out | apply qg | apply qe | apply qf | refine qd ?_ GE281.out | refine qd ?_ GE282.out | refine qd ?_ GE283.out) | exact HB.out)) hb); clear BK281; clear BK282; clear BK283; clear HB; have HO288 := n0_; have BK281 := n1_; have BK282 := n2_; have BK283 := n3_; have HB := n4_; clear n0_ n1_ n2_ n3_ n4_; (try clear hb); (try clear hb2); (try clear hk); (try clear hi); (try clear ho0); have hnb27 := NB283_282.out; have hnc27 := NB282_283.out; have hcz28_0 : w26.cell? ⟨gb283, 0, none⟩ = some (.int .i64 a4) := (qi BK283.out 0).trans rfl; have hfz28_0 := qh BK283.out 0) | ((with_reducible refine gate_callee (f := 12) rfl ?_); refine goesL_ (some 49) rfl rfl Try.func12 (by kernel_rfl) rfl #[.slice A0 l0.length c0, .int .i64 a2, .int .i64 a4] rfl (by (try simp only [List.map_toArray, List.map_cons, List.map_nil]); first | done | rfl | (simp only [List.length_drop, List.length_take]; rfl)) ?_; (with_reducible refine (ledger_Balance.calls k _ _ l0 a2 a4 t290 t291 _ ?side1 ?side2 A11.out).mono ?_); (case side1 => repeat (first | exact (Kd.C_below HR0.out HB.out) | (with_reducible refine Kd.C_alloc ?_ _) | (with_reducible refine Kd.C_drewN ?_ _) | (with_reducible refine Kd.C_drew ?_))); (case side2 => exact HC0.out); rintro e w29 ⟨rfl, hb⟩; refine ⟨_, rfl, ?_⟩; have n0_ := Aside0.mk (Kd.R_below (by (with_reducible repeat (first | apply qk | apply qj | apply ql)); exact HO288.out) hb); have n1_ := Aside0.mk (blk_below (g := gb281) (o := .cells #[.int .i64 a1_0, .int .i64 a1_1, .int .i64 a1_2, .int .i64 a1_3] 35 (0, 0)) (by (with_reducible repeat (first | refine qa ?_ _ | refine qb ?_ | refine qc ?_ _)); exact BK281.out) hb); have n2_ := Aside0.mk (blk_below (g := gb282) (o := .cells #[.int .i64 a3] 3 (0, 0)) (by (with_reducible repeat (first | refine qa ?_ _ | refine qb ?_ | refine qc ?_ _)); exact BK282.out) hb); have n3_ := Aside0.mk (blk_below (g := gb283) (o := .cells #[.int .i64 a4] 3 (0, 0)) (by (with_reducible repeat (first | refine qa ?_ _ | refine qb ?_ | refine qc ?_ _)); exact BK283.out) hb); have n4_ := Aside0.mk (below_step (by repeat (first | (with_reducible first | exact HB.out | apply qg | apply qe | apply qf | refine qd ?_ GE281.out | refine qd ?_ GE282.out | refine qd ?_ GE283.out) | exact HB.out)) hb); clear HO288; clear BK281; clear BK282; clear BK283; clear HB; have HO288 := n0_; have BK281 := n1_; have BK282 := n2_; have BK283 := n3_; have HB := n4_; clear n0_ n1_ n2_ n3_ n4_; (try clear hb); (try clear hb2); (try clear hk); (try clear hi); have hcz30_0 : w29.cell? ⟨gb282, 0, none⟩ = some (.int .i64 a3) := (qi BK282.out 0).trans rfl; have hfz30_0 := qh BK282.out 0; have hcz31_0 : w29.cell? ⟨gb283, 0, none⟩ = some (.int .i64 a4) := (qi BK283.out 0).trans rfl; have hfz31_0 := qh BK283.out 0) | ((with_reducible refine gate_callee (f := 14) rfl ?_); refine goesL_ (some 57) rfl rfl Try.func14 (by kernel_rfl) rfl #[.slice A0 l0.length c0, .int .i64 a2, .int .i64 a3, .int .i64 a4] rfl (by (try simp only [List.map_toArray, List.map_cons, List.map_nil]); first | done | rfl | (simp only [List.length_drop, List.length_take]; rfl)) ?_; (with_reducible refine (ledger_Turnover.calls k _ _ l0 a2 a3 a4 t292 t293 t294 _ ?side1 ?side2 A12.out).mono ?_); (case side1 => repeat (first | exact (Kd.C_below HR0.out HB.out) | (with_reducible refine Kd.C_alloc ?_ _) | (with_reducible refine Kd.C_drewN ?_ _) | (with_reducible refine Kd.C_drew ?_))); (case side2 => exact HC0.out); rintro e w32 ⟨rfl, hb⟩; refine ⟨_, rfl, ?_⟩; have n0_ := Aside0.mk (Kd.R_below (by (with_reducible repeat (first | apply qk | apply qj | apply ql)); exact HO288.out) hb); have n1_ := Aside0.mk (blk_below (g := gb281) (o := .cells #[.int .i64 a1_0, .int .i64 a1_1, .int .i64 a1_2, .int .i64 a1_3] 35 (0, 0)) (by (with_reducible repeat (first | refine qa ?_ _ | refine qb ?_ | refine qc ?_ _)); exact BK281.out) hb); have n2_ := Aside0.mk (blk_below (g := gb282) (o := .cells #[.int .i64 a3] 3 (0, 0)) (by (with_reducible repeat (first | refine qa ?_ _ | refine qb ?_ | refine qc ?_ _)); exact BK282.out) hb); have n3_ := Aside0.mk (blk_below (g := gb283) (o := .cells #[.int .i64 a4] 3 (0, 0)) (by (with_reducible repeat (first | refine qa ?_ _ | refine qb ?_ | refine qc ?_ _)); exact BK283.out) hb); have n4_ := Aside0.mk (below_step (by repeat (first | (with_reducible first | exact HB.out | apply qg | apply qe | apply qf | refine qd ?_ GE281.out | refine qd ?_ GE282.out | refine qd ?_ GE283.out) | exact HB.out)) hb); clear HO288; clear BK281; clear BK282; clear BK283; clear HB; have HO288 := n0_; have BK281 := n1_; have BK282 := n2_; have BK283 := n3_; have HB := n4_; clear n0_ n1_ n2_ n3_ n4_; (try clear hb); (try clear hb2); (try clear hk); (try clear hi)) | ((with_reducible refine gate_callee (f := 30) rfl ?_); refine goesL_ (some 63) rfl rfl Try.func30 (by kernel_rfl) rfl #[.slice A0 l0.length c0] rfl (by (try simp only [List.map_toArray, List.map_cons, List.map_nil]); first | done | rfl | (simp only [List.length_drop, List.length_take]; rfl)) ?_; (with_reducible refine (ledger_Accounts.calls k _ _ l0 t295 t296 _ ?side1 ?side2 A13.out).mono ?_); (case side1 => repeat (first | exact (Kd.C_below HR0.out HB.out) | (with_reducible refine Kd.C_alloc ?_ _) | (with_reducible refine Kd.C_drewN ?_ _) | (with_reducible refine Kd.C_drew ?_))); (case side2 => exact HC0.out); rintro e w33 ⟨v297, rfl, ho0, hb⟩; refine ⟨_, rfl, ?_⟩; have n0_ := Aside0.mk (Kd.R_below (by (with_reducible repeat (first | apply qk | apply qj | apply ql)); exact HO288.out) hb); have n1_ := Aside0.mk (Kd.R_lower (Kd.R_newB (Kd.R_newB ho0 (g := gb282) (o := .cells #[.int .i64 a3] 3 (0, 0)) (by (with_reducible repeat (first | refine qa ?_ _ | refine qb ?_ | refine qc ?_ _)); exact BK282.out)) (g := gb283) (o := .cells #[.int .i64 a4] 3 (0, 0)) (by (with_reducible repeat (first | refine qa ?_ _ | refine qb ?_ | refine qc ?_ _)); exact BK283.out)) (below_size (by repeat (first | (with_reducible first | exact HB.out | apply qg | apply qe | apply qf | refine qd ?_ GE281.out | refine qd ?_ GE282.out | refine qd ?_ GE283.out) | exact HB.out)))); have n2_ := Aside0.mk (blk_below (g := gb281) (o := .cells #[.int .i64 a1_0, .int .i64 a1_1, .int .i64 a1_2, .int .i64 a1_3] 35 (0, 0)) (by (with_reducible repeat (first | refine qa ?_ _ | refine qb ?_ | refine qc ?_ _)); exact BK281.out) hb); have n3_ := Aside0.mk (blk_below (g := gb282) (o := .cells #[.int .i64 a3] 3 (0, 0)) (by (with_reducible repeat (first | refine qa ?_ _ | refine qb ?_ | refine qc ?_ _)); exact BK282.out) hb); have n4_ := Aside0.mk (blk_below (g := gb283) (o := .cells #[.int .i64 a4] 3 (0, 0)) (by (with_reducible repeat (first | refine qa ?_ _ | refine qb ?_ | refine qc ?_ _)); exact BK283.out) hb); have n5_ := Aside0.mk (below_step (by repeat (first | (with_reducible first | exact HB.out | apply qg | apply qe | apply qf | refine qd ?_ GE281.out | refine qd ?_ GE282.out | refine qd ?_ GE283.out) | exact HB.out)) hb); clear HO288; clear BK281; clear BK282; clear BK283; clear HB; have HO288 := n0_; have HO298 := n1_; have BK281 := n2_; have BK282 := n3_; have BK283 := n4_; have HB := n5_; clear n0_ n1_ n2_ n3_ n4_ n5_; (try clear hb); (try clear hb2); (try clear hk); (try clear hi); (try clear ho0); have hcz34_0 : w33.cell? ⟨gb283, 0, none⟩ = some (.int .i64 a4) := (qi BK283.out 0).trans rfl; have hfz34_0 := qh BK283.out 0) | ((with_reducible refine gate_callee (f := 16) rfl ?_); refine goesL_ (some 70) rfl rfl Try.func16 (by kernel_rfl) rfl #[.slice A0 l0.length c0, .int .i64 a5, .int .i64 a4] rfl (by (try simp only [List.map_toArray, List.map_cons, List.map_nil]); first | done | rfl | (simp only [List.length_drop, List.length_take]; rfl)) ?_; (with_reducible refine (ledger_Undo.calls k _ _ l0 a5 a4 t299 t300 _ ?side1 ?side2 A14.out).mono ?_); (case side1 => repeat (first | exact (Kd.C_below HR0.out HB.out) | (with_reducible refine Kd.C_alloc ?_ _) | (with_reducible refine Kd.C_drewN ?_ _) | (with_reducible refine Kd.C_drew ?_))); (case side2 => exact HC0.out); rintro e w35 ⟨v301, rfl, ho0, hb⟩; refine ⟨_, rfl, ?_⟩; have n0_ := Aside0.mk (Kd.R_elder' (by (with_reducible repeat (first | apply qk | apply qj | apply ql)); exact HO288.out) (Kd.R_base ho0) hb); have n1_ := Aside0.mk (Kd.R_below (by (with_reducible repeat (first | apply qk | apply qj | apply ql)); exact HO298.out) hb); have n2_ := Aside0.mk (Kd.R_lower (Kd.R_newB (Kd.R_new' ho0 (Kd.R_lt (by (with_reducible repeat (first | apply qk | apply qj | apply ql)); exact HO288.out))) (g := gb281) (o := .cells #[.int .i64 a1_0, .int .i64 a1_1, .int .i64 a1_2, .int .i64 a1_3] 35 (0, 0)) (by (with_reducible repeat (first | refine qa ?_ _ | refine qb ?_ | refine qc ?_ _)); exact BK281.out)) (below_size (by repeat (first | (with_reducible first | exact HB.out | apply qg | apply qe | apply qf | refine qd ?_ GE281.out | refine qd ?_ GE282.out | refine qd ?_ GE283.out) | exact HB.out)))); have n3_ := Aside0.mk (blk_below (g := gb281) (o := .cells #[.int .i64 a1_0, .int .i64 a1_1, .int .i64 a1_2, .int .i64 a1_3] 35 (0, 0)) (by (with_reducible repeat (first | refine qa ?_ _ | refine qb ?_ | refine qc ?_ _)); exact BK281.out) hb); have n4_ := Aside0.mk (blk_below (g := gb282) (o := .cells #[.int .i64 a3] 3 (0, 0)) (by (with_reducible repeat (first | refine qa ?_ _ | refine qb ?_ | refine qc ?_ _)); exact BK282.out) hb); have n5_ := Aside0.mk (blk_below (g := gb283) (o := .cells #[.int .i64 a4] 3 (0, 0)) (by (with_reducible repeat (first | refine qa ?_ _ | refine qb ?_ | refine qc ?_ _)); exact BK283.out) hb); have n6_ := Aside0.mk (below_step (by repeat (first | (with_reducible first | exact HB.out | apply qg | apply qe | apply qf | refine qd ?_ GE281.out | refine qd ?_ GE282.out | refine qd ?_ GE283.out) | exact HB.out)) hb); clear HO288; clear HO298; clear BK281; clear BK282; clear BK283; clear HB; have HO288 := n0_; have HO298 := n1_; have HO302 := n2_; have BK281 := n3_; have BK282 := n4_; have BK283 := n5_; have HB := n6_; clear n0_ n1_ n2_ n3_ n4_ n5_ n6_; (try clear hb); (try clear hb2); (try clear hk); (try clear hi); (try clear ho0)))
      have n0_ := Aside0.mk (ql HO288.out)
      have n1_ := Aside0.mk (ql HO298.out)
      have n2_ := Aside0.mk (ql HO302.out)
      have n3_ := Aside0.mk (qb BK281.out)
      have n4_ := Aside0.mk (qb BK282.out)
      have n5_ := Aside0.mk (qb BK283.out)
      have n6_ := Aside0.mk (qf HB.out)
      clear HO288
      clear HO298
      clear HO302
      clear BK281
      clear BK282
      clear BK283
      clear HB
      have HO288 := n0_
      have HO298 := n1_
      have HO302 := n2_
      have BK281 := n3_
      have BK282 := n4_
      have BK283 := n5_
      have HB := n6_
      clear n0_ n1_ n2_ n3_ n4_ n5_ n6_
      refine start_ (n := 6) (S := fun w' => w'.cell? ⟨gb281, 0, none⟩ = some (.int .i64 a1_0) ∧ w'.cell? ⟨gb281, 1, none⟩ = some (.int .i64 a1_1) ∧ w'.cell? ⟨gb281, 2, none⟩ = some (.int .i64 a1_2) ∧ w'.cell? ⟨gb281, 3, none⟩ = some (.int .i64 a1_3)) (ds := []) #[false, false, false, false, false, false] (by kernel_rfl) rfl rfl ⟨(qi BK281.out 0).trans rfl, (qi BK281.out 1).trans rfl, (qi BK281.out 2).trans rfl, (qi BK281.out 3).trans rfl⟩ (fun hHeld => ?_)
      generalize w35.drew = w36 at HO288 HO298 HO302 BK281 BK282 BK283 HB hHeld ⊢
      refine pure_ (i := 0) (N := some 73) (v := ?_) (a' := ?_) #[true, false, false, false, false, false] rfl rfl (by kernel_rfl) (fun _ _ _ h => h) (Or.inl ⟨by rfl, ?_⟩) ?_ ?_
      rotate_left
      · intro w'
        go_simp
        with_reducible rfl
      rotate_left
      · simp only [Act.put, List.setIfInBounds_toArray, List.set_cons_zero, List.set_cons_succ, i64_w, i32_w]
        rfl
      refine take_ (i := 2) (N := some 75) (v := ?_) (a' := ?_) #[true, false, true, false, false, false] rfl rfl (by kernel_rfl) (fun _ _ _ h => h) (Or.inl ⟨by rfl, ?_⟩) hHeld ?_ ?_
      rotate_left
      · rintro w' ⟨s0, s1, s2, s3⟩
        go_simp
        with_reducible rfl
      rotate_left
      · simp only [Act.put, List.setIfInBounds_toArray, List.set_cons_zero, List.set_cons_succ, i64_w, i32_w]
        rfl
      refine join_ (σ := Value × Value) 2 #[true, true, true, true, false, false] (fun s_ => [(74, s_.1), (76, s_.2)]) (fun s_ w' => (w'.cell? ⟨gb281, 0, none⟩ = some (.int .i64 a1_0) ∧ w'.cell? ⟨gb281, 1, none⟩ = some (.int .i64 a1_1) ∧ w'.cell? ⟨gb281, 2, none⟩ = some (.int .i64 a1_2) ∧ w'.cell? ⟨gb281, 3, none⟩ = some (.int .i64 a1_3)) ∧ (Kd.R k35 35 w' w.heap.size (fun k_ => some k_ ≠ (v301 : Value).ownBlock ∧ some k_ ≠ (s_.1 : Value).ownBlock ∧ some k_ ≠ (s_.2 : Value).ownBlock ∧ k_ ≠ gb281) v287 t286) ∧ (Kd.R (Kd.int .i64) 3 w' w.heap.size (fun k_ => k_ ≠ gb282 ∧ k_ ≠ gb283) v297 t295) ∧ (Kd.R k35 35 w' w.heap.size (fun k_ => some k_ ≠ (v287 : Value).ownBlock ∧ some k_ ≠ (s_.1 : Value).ownBlock ∧ some k_ ≠ (s_.2 : Value).ownBlock ∧ k_ ≠ gb281) v301 t299) ∧ (Kd.R k35 35 w' w.heap.size (fun k_ => some k_ ≠ (v287 : Value).ownBlock ∧ some k_ ≠ (v301 : Value).ownBlock ∧ some k_ ≠ (s_.2 : Value).ownBlock ∧ k_ ≠ gb281) s_.1 t303) ∧ (Kd.R k35 35 w' w.heap.size (fun k_ => some k_ ≠ (v287 : Value).ownBlock ∧ some k_ ≠ (v301 : Value).ownBlock ∧ some k_ ≠ (s_.1 : Value).ownBlock ∧ k_ ≠ gb281) s_.2 y306) ∧ (w'.heap[gb281]? = some (.cells #[.int .i64 a1_0, .int .i64 a1_1, .int .i64 a1_2, .int .i64 a1_3] 35 (0, 0))) ∧ (w'.heap[gb282]? = some (.cells #[.int .i64 a3] 3 (0, 0))) ∧ (w'.heap[gb283]? = some (.cells #[.int .i64 a4] 3 (0, 0))) ∧ (Below w.heap.size w w')) ?_ ?_
      rotate_left
      · as_aux_lemma =>
          intro hCont
          refine two_ (i := 1) (j := 3) (Ni := some 74) (Nj := some 76) #[true, true, true, false, false, false] #[true, false, true, true, false, false] rfl rfl rfl rfl (by kernel_rfl) (by decide) (by decide) (fun K hK => ?_) (fun K hK => ?_)
          · skip
            refine goes_ Try.func18 (by kernel_rfl) rfl #[.slice A0 l0.length c0] (by rfl) rfl rfl (by (try simp only [List.map_toArray, List.map_cons, List.map_nil]); first | done | rfl | (simp only [List.length_drop, List.length_take]; rfl)) ?_
            with_reducible refine (ledger_Entry_18.calls _ _ l0 t303 _ ?side1 ?side2 A15.out).mono ?_
            (case side1 => repeat (first | exact (Kd.C_below HR0.out HB.out) | (with_reducible refine Kd.C_alloc ?_ _) | (with_reducible refine Kd.C_drewN ?_ _) | (with_reducible refine Kd.C_drew ?_)))
            (case side2 => exact HC0.out)
            rintro e w37 ⟨v304, rfl, ho0, hb⟩
            refine ⟨_, rfl, ?_⟩
            have n0_ := Aside0.mk (Kd.R_elder' (by (with_reducible repeat (first | apply qk | apply qj | apply ql)); exact HO288.out) (Kd.R_base ho0) hb)
            have n1_ := Aside0.mk (Kd.R_below (by (with_reducible repeat (first | apply qk | apply qj | apply ql)); exact HO298.out) hb)
            have n2_ := Aside0.mk (Kd.R_elder' (by (with_reducible repeat (first | apply qk | apply qj | apply ql)); exact HO302.out) (Kd.R_base ho0) hb)
            have n3_ := Aside0.mk (Kd.R_lower (Kd.R_newB (Kd.R_new' (Kd.R_new' ho0 (Kd.R_lt (by (with_reducible repeat (first | apply qk | apply qj | apply ql)); exact HO288.out))) (Kd.R_lt (by (with_reducible repeat (first | apply qk | apply qj | apply ql)); exact HO302.out))) (g := gb281) (o := .cells #[.int .i64 a1_0, .int .i64 a1_1, .int .i64 a1_2, .int .i64 a1_3] 35 (0, 0)) (by (with_reducible repeat (first | refine qa ?_ _ | refine qb ?_ | refine qc ?_ _)); exact BK281.out)) (below_size (by repeat (first | (with_reducible first | exact HB.out | apply qg | apply qe | apply qf | refine qd ?_ GE281.out | refine qd ?_ GE282.out | refine qd ?_ GE283.out) | exact HB.out))))
            have n4_ := Aside0.mk (blk_below (g := gb281) (o := .cells #[.int .i64 a1_0, .int .i64 a1_1, .int .i64 a1_2, .int .i64 a1_3] 35 (0, 0)) (by (with_reducible repeat (first | refine qa ?_ _ | refine qb ?_ | refine qc ?_ _)); exact BK281.out) hb)
            have n5_ := Aside0.mk (blk_below (g := gb282) (o := .cells #[.int .i64 a3] 3 (0, 0)) (by (with_reducible repeat (first | refine qa ?_ _ | refine qb ?_ | refine qc ?_ _)); exact BK282.out) hb)
            have n6_ := Aside0.mk (blk_below (g := gb283) (o := .cells #[.int .i64 a4] 3 (0, 0)) (by (with_reducible repeat (first | refine qa ?_ _ | refine qb ?_ | refine qc ?_ _)); exact BK283.out) hb)
            have n7_ := Aside0.mk (below_step (by repeat (first | (with_reducible first | exact HB.out | apply qg | apply qe | apply qf | refine qd ?_ GE281.out | refine qd ?_ GE282.out | refine qd ?_ GE283.out) | exact HB.out)) hb)
            clear HO288
            clear HO298
            clear HO302
            clear BK281
            clear BK282
            clear BK283
            clear HB
            have HO288 := n0_
            have HO298 := n1_
            have HO302 := n2_
            have HO305 := n3_
            have BK281 := n4_
            have BK282 := n5_
            have BK283 := n6_
            have HB := n7_
            clear n0_ n1_ n2_ n3_ n4_ n5_ n6_ n7_
            (try clear hb)
            (try clear hb2)
            (try clear hk)
            (try clear hi)
            (try clear ho0)
            refine hK.out _ _ ⟨(qi BK281.out 0).trans rfl, (qi BK281.out 1).trans rfl, (qi BK281.out 2).trans rfl, (qi BK281.out 3).trans rfl⟩ (fun hHeld => ?_)
            clear hK K
            refine norm_ (a' := ?_) ?_ ?_
            rotate_left
            · show Act.put _ (some 74) _ = _
              simp only [Act.put, List.setIfInBounds_toArray, List.set_cons_zero, List.set_cons_succ, i64_w, i32_w]
              rfl
            refine one_ (i := 3) (N := some 76) #[true, true, true, true, false, false] rfl rfl (by kernel_rfl) (by decide) (fun K hK => ?_)
            refine Kd.R_lit_step k35 _ 35 ?hg (N := 76) ?hd (xs := ([(⟨a1_0, a1_1, a1_2, a1_3⟩ : S35)] : List (S35))) (inner := [.int .i64 a1_0, .int .i64 a1_1, .int .i64 a1_2, .int .i64 a1_3]) (ok := fun _ => True) (okp := fun _ => True) ?hr ?hp (fun _ hk => hk) trivial (Below.refl _ _) (Nat.le_refl _) (by simp) ?_; (case hd => rfl); (case hg => rfl); (case hr => first | (go_simp; done) | (go_simp; rfl)); (case hp => exact (Reps.c4 (show Kd.M k35 _ _ _ (⟨a1_0, a1_1, a1_2, a1_3⟩ : S35) [.int .i64 a1_0, .int .i64 a1_1, .int .i64 a1_2, .int .i64 a1_3] from (k35_mkM _ _ _ (⟨a1_0, a1_1, a1_2, a1_3⟩ : S35) )) (Reps.none _ _)))
            intro v307 w38 ho39 hb hg_ hnew_
            clear hg_ hnew_
            (first | rw [← Ny306.out] at ho39 | (simp only [Int.reduceToNat] at ho39; rw [← Ny306.out] at ho39))
            have n0_ := Aside0.mk (Kd.R_elder' (by (with_reducible repeat (first | apply qk | apply qj | apply ql)); exact HO288.out) (Kd.R_base ho39) hb)
            have n1_ := Aside0.mk (Kd.R_below (by (with_reducible repeat (first | apply qk | apply qj | apply ql)); exact HO298.out) hb)
            have n2_ := Aside0.mk (Kd.R_elder' (by (with_reducible repeat (first | apply qk | apply qj | apply ql)); exact HO302.out) (Kd.R_base ho39) hb)
            have n3_ := Aside0.mk (Kd.R_elder' (by (with_reducible repeat (first | apply qk | apply qj | apply ql)); exact HO305.out) (Kd.R_base ho39) hb)
            have n4_ := Aside0.mk (Kd.R_lower (Kd.R_newB (Kd.R_new' (Kd.R_new' (Kd.R_new' ho39 (Kd.R_lt (by (with_reducible repeat (first | apply qk | apply qj | apply ql)); exact HO288.out))) (Kd.R_lt (by (with_reducible repeat (first | apply qk | apply qj | apply ql)); exact HO302.out))) (Kd.R_lt (by (with_reducible repeat (first | apply qk | apply qj | apply ql)); exact HO305.out))) (g := gb281) (o := .cells #[.int .i64 a1_0, .int .i64 a1_1, .int .i64 a1_2, .int .i64 a1_3] 35 (0, 0)) (by (with_reducible repeat (first | refine qa ?_ _ | refine qb ?_ | refine qc ?_ _)); exact BK281.out)) (below_size (by repeat (first | (with_reducible first | exact HB.out | apply qg | apply qe | apply qf | refine qd ?_ GE281.out | refine qd ?_ GE282.out | refine qd ?_ GE283.out) | exact HB.out))))
            have n5_ := Aside0.mk (blk_below (g := gb281) (o := .cells #[.int .i64 a1_0, .int .i64 a1_1, .int .i64 a1_2, .int .i64 a1_3] 35 (0, 0)) (by (with_reducible repeat (first | refine qa ?_ _ | refine qb ?_ | refine qc ?_ _)); exact BK281.out) hb)
            have n6_ := Aside0.mk (blk_below (g := gb282) (o := .cells #[.int .i64 a3] 3 (0, 0)) (by (with_reducible repeat (first | refine qa ?_ _ | refine qb ?_ | refine qc ?_ _)); exact BK282.out) hb)
            have n7_ := Aside0.mk (blk_below (g := gb283) (o := .cells #[.int .i64 a4] 3 (0, 0)) (by (with_reducible repeat (first | refine qa ?_ _ | refine qb ?_ | refine qc ?_ _)); exact BK283.out) hb)
            have n8_ := Aside0.mk (below_step (by repeat (first | (with_reducible first | exact HB.out | apply qg | apply qe | apply qf | refine qd ?_ GE281.out | refine qd ?_ GE282.out | refine qd ?_ GE283.out) | exact HB.out)) hb)
            clear HO288
            clear HO298
            clear HO302
            clear HO305
            clear BK281
            clear BK282
            clear BK283
            clear HB
            have HO288 := n0_
            have HO298 := n1_
            have HO302 := n2_
            have HO305 := n3_
            have HO308 := n4_
            have BK281 := n5_
            have BK282 := n6_
            have BK283 := n7_
            have HB := n8_
            clear n0_ n1_ n2_ n3_ n4_ n5_ n6_ n7_ n8_
            clear hb ho39
            refine hK.out _ _ ⟨(qi BK281.out 0).trans rfl, (qi BK281.out 1).trans rfl, (qi BK281.out 2).trans rfl, (qi BK281.out 3).trans rfl⟩ (fun hHeld => ?_)
            clear hK K
            refine norm_ (a' := ?_) ?_ ?_
            rotate_left
            · show Act.put _ (some 76) _ = _
              simp only [Act.put, List.setIfInBounds_toArray, List.set_cons_zero, List.set_cons_succ, i64_w, i32_w]
              rfl
            exact norm_ (by simp only [putAll, Act.put, List.setIfInBounds_toArray, List.set_cons_zero, List.set_cons_succ]) (hCont (v304, v307) _ ⟨hHeld, (by (with_reducible repeat (first | apply qk | apply qj | apply ql)); exact Kd.R_mono HO288.out (fun _ hk => ⟨hk.1.1.2, ⟨hk.1.2, ⟨hk.2, hk.1.1.1.2⟩⟩⟩)), (by (with_reducible repeat (first | apply qk | apply qj | apply ql)); exact Kd.R_mono HO298.out (fun _ hk => ⟨hk.1.2, hk.2⟩)), (by (with_reducible repeat (first | apply qk | apply qj | apply ql)); exact Kd.R_mono HO302.out (fun _ hk => ⟨hk.1.1.1.2, ⟨hk.1.2, ⟨hk.2, hk.1.1.2⟩⟩⟩)), (by (with_reducible repeat (first | apply qk | apply qj | apply ql)); exact Kd.R_mono HO305.out (fun _ hk => ⟨hk.1.1.1.2, ⟨hk.1.1.2, ⟨hk.2, hk.1.2⟩⟩⟩)), (by (with_reducible repeat (first | apply qk | apply qj | apply ql)); exact Kd.R_mono HO308.out (fun _ hk => ⟨hk.1.1.1.2, ⟨hk.1.1.2, ⟨hk.1.2, hk.2⟩⟩⟩)), (by (with_reducible repeat (first | refine qa ?_ _ | refine qb ?_ | refine qc ?_ _)); exact BK281.out), (by (with_reducible repeat (first | refine qa ?_ _ | refine qb ?_ | refine qc ?_ _)); exact BK282.out), (by (with_reducible repeat (first | refine qa ?_ _ | refine qb ?_ | refine qc ?_ _)); exact BK283.out), (by repeat (first | (with_reducible first | exact HB.out | apply qg | apply qe | apply qf | refine qd ?_ GE281.out | refine qd ?_ GE282.out | refine qd ?_ GE283.out) | exact HB.out))⟩)
          · skip
            refine Kd.R_lit_step k35 _ 35 ?hg (N := 76) ?hd (xs := ([(⟨a1_0, a1_1, a1_2, a1_3⟩ : S35)] : List (S35))) (inner := [.int .i64 a1_0, .int .i64 a1_1, .int .i64 a1_2, .int .i64 a1_3]) (ok := fun _ => True) (okp := fun _ => True) ?hr ?hp (fun _ hk => hk) trivial (Below.refl _ _) (Nat.le_refl _) (by simp) ?_; (case hd => rfl); (case hg => rfl); (case hr => first | (go_simp; done) | (go_simp; rfl)); (case hp => exact (Reps.c4 (show Kd.M k35 _ _ _ (⟨a1_0, a1_1, a1_2, a1_3⟩ : S35) [.int .i64 a1_0, .int .i64 a1_1, .int .i64 a1_2, .int .i64 a1_3] from (k35_mkM _ _ _ (⟨a1_0, a1_1, a1_2, a1_3⟩ : S35) )) (Reps.none _ _)))
            intro v307 w37 ho38 hb hg_ hnew_
            clear hg_ hnew_
            (first | rw [← Ny306.out] at ho38 | (simp only [Int.reduceToNat] at ho38; rw [← Ny306.out] at ho38))
            have n0_ := Aside0.mk (Kd.R_elder' (by (with_reducible repeat (first | apply qk | apply qj | apply ql)); exact HO288.out) (Kd.R_base ho38) hb)
            have n1_ := Aside0.mk (Kd.R_below (by (with_reducible repeat (first | apply qk | apply qj | apply ql)); exact HO298.out) hb)
            have n2_ := Aside0.mk (Kd.R_elder' (by (with_reducible repeat (first | apply qk | apply qj | apply ql)); exact HO302.out) (Kd.R_base ho38) hb)
            have n3_ := Aside0.mk (Kd.R_lower (Kd.R_newB (Kd.R_new' (Kd.R_new' ho38 (Kd.R_lt (by (with_reducible repeat (first | apply qk | apply qj | apply ql)); exact HO288.out))) (Kd.R_lt (by (with_reducible repeat (first | apply qk | apply qj | apply ql)); exact HO302.out))) (g := gb281) (o := .cells #[.int .i64 a1_0, .int .i64 a1_1, .int .i64 a1_2, .int .i64 a1_3] 35 (0, 0)) (by (with_reducible repeat (first | refine qa ?_ _ | refine qb ?_ | refine qc ?_ _)); exact BK281.out)) (below_size (by repeat (first | (with_reducible first | exact HB.out | apply qg | apply qe | apply qf | refine qd ?_ GE281.out | refine qd ?_ GE282.out | refine qd ?_ GE283.out) | exact HB.out))))
            have n4_ := Aside0.mk (blk_below (g := gb281) (o := .cells #[.int .i64 a1_0, .int .i64 a1_1, .int .i64 a1_2, .int .i64 a1_3] 35 (0, 0)) (by (with_reducible repeat (first | refine qa ?_ _ | refine qb ?_ | refine qc ?_ _)); exact BK281.out) hb)
            have n5_ := Aside0.mk (blk_below (g := gb282) (o := .cells #[.int .i64 a3] 3 (0, 0)) (by (with_reducible repeat (first | refine qa ?_ _ | refine qb ?_ | refine qc ?_ _)); exact BK282.out) hb)
            have n6_ := Aside0.mk (blk_below (g := gb283) (o := .cells #[.int .i64 a4] 3 (0, 0)) (by (with_reducible repeat (first | refine qa ?_ _ | refine qb ?_ | refine qc ?_ _)); exact BK283.out) hb)
            have n7_ := Aside0.mk (below_step (by repeat (first | (with_reducible first | exact HB.out | apply qg | apply qe | apply qf | refine qd ?_ GE281.out | refine qd ?_ GE282.out | refine qd ?_ GE283.out) | exact HB.out)) hb)
            clear HO288
            clear HO298
            clear HO302
            clear BK281
            clear BK282
            clear BK283
            clear HB
            have HO288 := n0_
            have HO298 := n1_
            have HO302 := n2_
            have HO308 := n3_
            have BK281 := n4_
            have BK282 := n5_
            have BK283 := n6_
            have HB := n7_
            clear n0_ n1_ n2_ n3_ n4_ n5_ n6_ n7_
            clear hb ho38
            refine hK.out _ _ ⟨(qi BK281.out 0).trans rfl, (qi BK281.out 1).trans rfl, (qi BK281.out 2).trans rfl, (qi BK281.out 3).trans rfl⟩ (fun hHeld => ?_)
            clear hK K
            refine norm_ (a' := ?_) ?_ ?_
            rotate_left
            · show Act.put _ (some 76) _ = _
              simp only [Act.put, List.setIfInBounds_toArray, List.set_cons_zero, List.set_cons_succ, i64_w, i32_w]
              rfl
            refine one_ (i := 1) (N := some 74) #[true, true, true, true, false, false] rfl rfl (by kernel_rfl) (by decide) (fun K hK => ?_)
            refine goes_ Try.func18 (by kernel_rfl) rfl #[.slice A0 l0.length c0] (by rfl) rfl rfl (by (try simp only [List.map_toArray, List.map_cons, List.map_nil]); first | done | rfl | (simp only [List.length_drop, List.length_take]; rfl)) ?_
            with_reducible refine (ledger_Entry_18.calls _ _ l0 t303 _ ?side1 ?side2 A15.out).mono ?_
            (case side1 => repeat (first | exact (Kd.C_below HR0.out HB.out) | (with_reducible refine Kd.C_alloc ?_ _) | (with_reducible refine Kd.C_drewN ?_ _) | (with_reducible refine Kd.C_drew ?_)))
            (case side2 => exact HC0.out)
            rintro e w39 ⟨v304, rfl, ho0, hb⟩
            refine ⟨_, rfl, ?_⟩
            have n0_ := Aside0.mk (Kd.R_elder' (by (with_reducible repeat (first | apply qk | apply qj | apply ql)); exact HO288.out) (Kd.R_base ho0) hb)
            have n1_ := Aside0.mk (Kd.R_below (by (with_reducible repeat (first | apply qk | apply qj | apply ql)); exact HO298.out) hb)
            have n2_ := Aside0.mk (Kd.R_elder' (by (with_reducible repeat (first | apply qk | apply qj | apply ql)); exact HO302.out) (Kd.R_base ho0) hb)
            have n3_ := Aside0.mk (Kd.R_elder' (by (with_reducible repeat (first | apply qk | apply qj | apply ql)); exact HO308.out) (Kd.R_base ho0) hb)
            have n4_ := Aside0.mk (Kd.R_lower (Kd.R_newB (Kd.R_new' (Kd.R_new' (Kd.R_new' ho0 (Kd.R_lt (by (with_reducible repeat (first | apply qk | apply qj | apply ql)); exact HO288.out))) (Kd.R_lt (by (with_reducible repeat (first | apply qk | apply qj | apply ql)); exact HO302.out))) (Kd.R_lt (by (with_reducible repeat (first | apply qk | apply qj | apply ql)); exact HO308.out))) (g := gb281) (o := .cells #[.int .i64 a1_0, .int .i64 a1_1, .int .i64 a1_2, .int .i64 a1_3] 35 (0, 0)) (by (with_reducible repeat (first | refine qa ?_ _ | refine qb ?_ | refine qc ?_ _)); exact BK281.out)) (below_size (by repeat (first | (with_reducible first | exact HB.out | apply qg | apply qe | apply qf | refine qd ?_ GE281.out | refine qd ?_ GE282.out | refine qd ?_ GE283.out) | exact HB.out))))
            have n5_ := Aside0.mk (blk_below (g := gb281) (o := .cells #[.int .i64 a1_0, .int .i64 a1_1, .int .i64 a1_2, .int .i64 a1_3] 35 (0, 0)) (by (with_reducible repeat (first | refine qa ?_ _ | refine qb ?_ | refine qc ?_ _)); exact BK281.out) hb)
            have n6_ := Aside0.mk (blk_below (g := gb282) (o := .cells #[.int .i64 a3] 3 (0, 0)) (by (with_reducible repeat (first | refine qa ?_ _ | refine qb ?_ | refine qc ?_ _)); exact BK282.out) hb)
            have n7_ := Aside0.mk (blk_below (g := gb283) (o := .cells #[.int .i64 a4] 3 (0, 0)) (by (with_reducible repeat (first | refine qa ?_ _ | refine qb ?_ | refine qc ?_ _)); exact BK283.out) hb)
            have n8_ := Aside0.mk (below_step (by repeat (first | (with_reducible first | exact HB.out | apply qg | apply qe | apply qf | refine qd ?_ GE281.out | refine qd ?_ GE282.out | refine qd ?_ GE283.out) | exact HB.out)) hb)
            clear HO288
            clear HO298
            clear HO302
            clear HO308
            clear BK281
            clear BK282
            clear BK283
            clear HB
            have HO288 := n0_
            have HO298 := n1_
            have HO302 := n2_
            have HO308 := n3_
            have HO305 := n4_
            have BK281 := n5_
            have BK282 := n6_
            have BK283 := n7_
            have HB := n8_
            clear n0_ n1_ n2_ n3_ n4_ n5_ n6_ n7_ n8_
            (try clear hb)
            (try clear hb2)
            (try clear hk)
            (try clear hi)
            (try clear ho0)
            refine hK.out _ _ ⟨(qi BK281.out 0).trans rfl, (qi BK281.out 1).trans rfl, (qi BK281.out 2).trans rfl, (qi BK281.out 3).trans rfl⟩ (fun hHeld => ?_)
            clear hK K
            refine norm_ (a' := ?_) ?_ ?_
            rotate_left
            · show Act.put _ (some 74) _ = _
              simp only [Act.put, List.setIfInBounds_toArray, List.set_cons_zero, List.set_cons_succ, i64_w, i32_w]
              rfl
            exact norm_ (by simp only [putAll, Act.put, List.setIfInBounds_toArray, List.set_cons_zero, List.set_cons_succ]) (hCont (v304, v307) _ ⟨hHeld, (by (with_reducible repeat (first | apply qk | apply qj | apply ql)); exact Kd.R_mono HO288.out (fun _ hk => ⟨hk.1.1.2, ⟨hk.2, ⟨hk.1.2, hk.1.1.1.2⟩⟩⟩)), (by (with_reducible repeat (first | apply qk | apply qj | apply ql)); exact Kd.R_mono HO298.out (fun _ hk => ⟨hk.1.2, hk.2⟩)), (by (with_reducible repeat (first | apply qk | apply qj | apply ql)); exact Kd.R_mono HO302.out (fun _ hk => ⟨hk.1.1.1.2, ⟨hk.2, ⟨hk.1.2, hk.1.1.2⟩⟩⟩)), (by (with_reducible repeat (first | apply qk | apply qj | apply ql)); exact Kd.R_mono HO305.out (fun _ hk => ⟨hk.1.1.1.2, ⟨hk.1.1.2, ⟨hk.1.2, hk.2⟩⟩⟩)), (by (with_reducible repeat (first | apply qk | apply qj | apply ql)); exact Kd.R_mono HO308.out (fun _ hk => ⟨hk.1.1.1.2, ⟨hk.1.1.2, ⟨hk.2, hk.1.2⟩⟩⟩)), (by (with_reducible repeat (first | refine qa ?_ _ | refine qb ?_ | refine qc ?_ _)); exact BK281.out), (by (with_reducible repeat (first | refine qa ?_ _ | refine qb ?_ | refine qc ?_ _)); exact BK282.out), (by (with_reducible repeat (first | refine qa ?_ _ | refine qb ?_ | refine qc ?_ _)); exact BK283.out), (by repeat (first | (with_reducible first | exact HB.out | apply qg | apply qe | apply qf | refine qd ?_ GE281.out | refine qd ?_ GE282.out | refine qd ?_ GE283.out) | exact HB.out))⟩)
      rintro ⟨v304, v307⟩ w40 ⟨hS_, h0_, h1_, h2_, h3_, h4_, h5_, h6_, h7_, h8_⟩
      have n0_ : Aside0 (Kd.R k35 35 w40 w.heap.size (fun k_ => some k_ ≠ (v301 : Value).ownBlock ∧ some k_ ≠ (v304 : Value).ownBlock ∧ some k_ ≠ (v307 : Value).ownBlock ∧ k_ ≠ gb281) v287 t286) := ⟨h0_⟩
      have n1_ : Aside0 (Kd.R (Kd.int .i64) 3 w40 w.heap.size (fun k_ => k_ ≠ gb282 ∧ k_ ≠ gb283) v297 t295) := ⟨h1_⟩
      have n2_ : Aside0 (Kd.R k35 35 w40 w.heap.size (fun k_ => some k_ ≠ (v287 : Value).ownBlock ∧ some k_ ≠ (v304 : Value).ownBlock ∧ some k_ ≠ (v307 : Value).ownBlock ∧ k_ ≠ gb281) v301 t299) := ⟨h2_⟩
      have n3_ : Aside0 (Kd.R k35 35 w40 w.heap.size (fun k_ => some k_ ≠ (v287 : Value).ownBlock ∧ some k_ ≠ (v301 : Value).ownBlock ∧ some k_ ≠ (v307 : Value).ownBlock ∧ k_ ≠ gb281) v304 t303) := ⟨h3_⟩
      have n4_ : Aside0 (Kd.R k35 35 w40 w.heap.size (fun k_ => some k_ ≠ (v287 : Value).ownBlock ∧ some k_ ≠ (v301 : Value).ownBlock ∧ some k_ ≠ (v304 : Value).ownBlock ∧ k_ ≠ gb281) v307 y306) := ⟨h4_⟩
      have n5_ : Aside0 (w40.heap[gb281]? = some (.cells #[.int .i64 a1_0, .int .i64 a1_1, .int .i64 a1_2, .int .i64 a1_3] 35 (0, 0))) := ⟨h5_⟩
      have n6_ : Aside0 (w40.heap[gb282]? = some (.cells #[.int .i64 a3] 3 (0, 0))) := ⟨h6_⟩
      have n7_ : Aside0 (w40.heap[gb283]? = some (.cells #[.int .i64 a4] 3 (0, 0))) := ⟨h7_⟩
      have n8_ : Aside0 (Below w.heap.size w w40) := ⟨h8_⟩
      clear HO288
      clear HO298
      clear HO302
      clear BK281
      clear BK282
      clear BK283
      clear HB
      clear h0_ h1_ h2_ h3_ h4_ h5_ h6_ h7_ h8_
      have HO288 := n0_
      have HO298 := n1_
      have HO302 := n2_
      have HO305 := n3_
      have HO308 := n4_
      have BK281 := n5_
      have BK282 := n6_
      have BK283 := n7_
      have HB := n8_
      clear n0_ n1_ n2_ n3_ n4_ n5_ n6_ n7_ n8_
      have hHeld : w40.cell? ⟨gb281, 0, none⟩ = some (.int .i64 a1_0) ∧ w40.cell? ⟨gb281, 1, none⟩ = some (.int .i64 a1_1) ∧ w40.cell? ⟨gb281, 2, none⟩ = some (.int .i64 a1_2) ∧ w40.cell? ⟨gb281, 3, none⟩ = some (.int .i64 a1_3) := hS_
      obtain ⟨Ao42, co42, eo42⟩ := Kd.R_slice HO308.out
      (first | subst eo42 | (injection eo42 with f1_ f2_ f3_; have f4_ := f1_.symm; have f5_ := f3_.symm; clear f1_ f2_ f3_; subst f4_; subst f5_))
      refine norm_ (a' := ?_) ?_ ?_
      rotate_left
      · simp only [putAll, Act.put, List.setIfInBounds_toArray, List.set_cons_zero, List.set_cons_succ]
        rfl
      refine one_ (i := 4) (N := some 77) #[true, true, true, true, true, false] rfl rfl (by kernel_rfl) (by decide) (fun K hK => ?_)
      refine Kd.R_append_rows_step k35 (w0 := w) w.heap.size (by rfl) (.tmp 74) (.tmp 76) 24 35 (.agg #[(.int .i64 0), (.int .i64 0), (.int .i64 0), (.int .i64 0)]) 32 rfl Try.underlying24 info35 rfl (by decide) (by omega) v304 t303 y306 _ _ _ (fun k_ => some k_ ≠ (v287 : Value).ownBlock ∧ some k_ ≠ (v301 : Value).ownBlock ∧ some k_ ≠ (.slice Ao42 y306.length co42 : Value).ownBlock ∧ k_ ≠ gb281) (fun _ => False) rfl rfl ?aO ?aR (fun _ _ h => h) (fun _ h => h.elim) ?aF ?aB ?aS ?aL ?_
      (case aR => repeat (first | exact (Kd.R_reads' HO308.out).2.2 | (with_reducible refine Kd.C_alloc ?_ _) | (with_reducible refine Kd.C_drewN ?_ _) | (with_reducible refine Kd.C_drew ?_)))
      (case aB => exact (by repeat (first | (with_reducible first | exact HB.out | apply qg | apply qe | apply qf | refine qd ?_ GE281.out | refine qd ?_ GE282.out | refine qd ?_ GE283.out) | exact HB.out)))
      (case aF => exact (fun k_ hk => ⟨Kd.fresh' (Kd.R_lt (by (with_reducible repeat (first | apply qk | apply qj | apply ql)); exact HO288.out)) k_ hk, Kd.fresh' (Kd.R_lt (by (with_reducible repeat (first | apply qk | apply qj | apply ql)); exact HO302.out)) k_ hk, Kd.fresh' (Kd.R_lt (by (with_reducible repeat (first | apply qk | apply qj | apply ql)); exact HO308.out)) k_ hk, Kd.freshB (g := gb281) (o := .cells #[.int .i64 a1_0, .int .i64 a1_1, .int .i64 a1_2, .int .i64 a1_3] 35 (0, 0)) (by (with_reducible repeat (first | refine qa ?_ _ | refine qb ?_ | refine qc ?_ _)); exact BK281.out) k_ hk⟩))
      (case aO => exact (by (with_reducible repeat (first | apply qk | apply qj | apply ql)); exact HO305.out))
      (case aS => exact (below_size (by repeat (first | (with_reducible first | exact HB.out | apply qg | apply qe | apply qf | refine qd ?_ GE281.out | refine qd ?_ GE282.out | refine qd ?_ GE283.out) | exact HB.out))))
      (case aL => have := LMc16.out; omega)
      intro v310 w41 ho hb hg hat
      rw [← Ny309.out] at ho
      have n0_ := Aside0.mk (blk_grown (g := gb281) (o := .cells #[.int .i64 a1_0, .int .i64 a1_1, .int .i64 a1_2, .int .i64 a1_3] 35 (0, 0)) (by (with_reducible repeat (first | refine qa ?_ _ | refine qb ?_ | refine qc ?_ _)); exact BK281.out) hg (Kd.R_away HO305.out (fun _ hk => hk.2.2.2)))
      have n1_ := Aside0.mk (blk_grown (g := gb282) (o := .cells #[.int .i64 a3] 3 (0, 0)) (by (with_reducible repeat (first | refine qa ?_ _ | refine qb ?_ | refine qc ?_ _)); exact BK282.out) hg (Kd.R_ne HO305.out BK282.out (by decide)))
      have n2_ := Aside0.mk (blk_grown (g := gb283) (o := .cells #[.int .i64 a4] 3 (0, 0)) (by (with_reducible repeat (first | refine qa ?_ _ | refine qb ?_ | refine qc ?_ _)); exact BK283.out) hg (Kd.R_ne HO305.out BK283.out (by decide)))
      have n3_ := Aside0.mk (Kd.R_after (ok := (fun k_ => some k_ ≠ (v301 : Value).ownBlock ∧ some k_ ≠ (.slice Ao42 y306.length co42 : Value).ownBlock ∧ k_ ≠ gb281)) (by (with_reducible repeat (first | apply qk | apply qj | apply ql)); exact Kd.R_mono HO288.out (fun _ hk => ⟨⟨hk.1, ⟨hk.2.2.1, hk.2.2.2⟩⟩, hk.2.1⟩)) hg hat)
      have n4_ := Aside0.mk (Kd.R_over' (by (with_reducible repeat (first | apply qk | apply qj | apply ql)); exact HO298.out) (Kd.R_typed (by (with_reducible repeat (first | apply qk | apply qj | apply ql)); exact HO305.out)) (by decide) hg)
      have n5_ := Aside0.mk (Kd.R_after (ok := (fun k_ => some k_ ≠ (v287 : Value).ownBlock ∧ some k_ ≠ (.slice Ao42 y306.length co42 : Value).ownBlock ∧ k_ ≠ gb281)) (by (with_reducible repeat (first | apply qk | apply qj | apply ql)); exact Kd.R_mono HO302.out (fun _ hk => ⟨⟨hk.1, ⟨hk.2.2.1, hk.2.2.2⟩⟩, hk.2.1⟩)) hg hat)
      have n6_ := Aside0.mk (Kd.R_after (ok := (fun k_ => some k_ ≠ (v287 : Value).ownBlock ∧ some k_ ≠ (v301 : Value).ownBlock ∧ k_ ≠ gb281)) (by (with_reducible repeat (first | apply qk | apply qj | apply ql)); exact Kd.R_mono HO308.out (fun _ hk => ⟨⟨hk.1, ⟨hk.2.1, hk.2.2.2⟩⟩, hk.2.2.1⟩)) hg hat)
      have n7_ := Aside0.mk (hb)
      have n8_ := Aside0.mk (ho)
      clear BK281
      clear BK282
      clear BK283
      clear HO288
      clear HO298
      clear HO302
      clear HO308
      clear HB
      clear HO305
      have BK281 := n0_
      have BK282 := n1_
      have BK283 := n2_
      have HO288 := n3_
      have HO298 := n4_
      have HO302 := n5_
      have HO308 := n6_
      have HB := n7_
      have HO311 := n8_
      clear n0_ n1_ n2_ n3_ n4_ n5_ n6_ n7_ n8_
      clear ho hb hg hat
      refine hK.out _ _ ⟨(qi BK281.out 0).trans rfl, (qi BK281.out 1).trans rfl, (qi BK281.out 2).trans rfl, (qi BK281.out 3).trans rfl⟩ (fun hHeld => ?_)
      clear hK K
      refine norm_ (a' := ?_) ?_ ?_
      rotate_left
      · show Act.put _ (some 77) _ = _
        simp only [Act.put, List.setIfInBounds_toArray, List.set_cons_zero, List.set_cons_succ, i64_w, i32_w]
        rfl
      refine pure_ (i := 5) (N := some 25) (v := ?_) (a' := ?_) #[true, true, true, true, true, true] rfl rfl (by kernel_rfl) (fun _ _ _ h => h) (Or.inl ⟨by rfl, ?_⟩) ?_ ?_
      rotate_left
      · intro w'
        go_simp
        with_reducible rfl
      rotate_left
      · simp only [Act.put, List.setIfInBounds_toArray, List.set_cons_zero, List.set_cons_succ, i64_w, i32_w]
        rfl
      refine done_ (by kernel_rfl) ?_
      go_upto_region 10 with (fail)
      go_cut [111] (fun v111 wc => ∃ (kq : Nat) (x111_16 : Bool), v111 = .bool x111_16 ∧ Aside0 (mootlaw4_LedgerTells.j0 kq l0 a2 a5 t285 t290 t291 t292 t293 t294 t295 t299 t300 x111_16 a3 a4 = some r) ∧ Aside0 (kq ≤ k) ∧ Aside0 (Kd.R (Kd.int .i64) 3 wc w.heap.size (fun k_ => k_ ≠ gb282 ∧ k_ ≠ gb283) v297 t295) ∧ Aside0 (Kd.R k35 35 wc w.heap.size (fun k_ => k_ ≠ gb281) v301 t299) ∧ Aside0 (wc.heap[gb281]? = some (.cells #[.int .i64 a1_0, .int .i64 a1_1, .int .i64 a1_2, .int .i64 a1_3] 35 (0, 0))) ∧ Aside0 (wc.heap[gb282]? = some (.cells #[.int .i64 a3] 3 (0, 0))) ∧ Aside0 (wc.heap[gb283]? = some (.cells #[.int .i64 a4] 3 (0, 0))) ∧ Aside0 (Below w.heap.size w wc))
      case first => as_aux_lemma =>
        have H := HC17.out
        clear HC17
        replace H := Option.bind_eq_some_iff.mp H
        obtain ⟨t312, A430, H⟩ := H
        replace H : (if t312 = t285 then ((mootlaw4_ledgerFault.f k y309).bind fun t313 => (if t289 = t313 then (if t289 = 0 then ((ledger_Entry_24.f k t286 y309).bind fun t314 => (if t314 = true then (mootlaw4_LedgerTells.j0 k l0 a2 a5 t285 t290 t291 t292 t293 t294 t295 t299 t300 (t296 != t285) a3 a4) else (mootlaw4_LedgerTells.j0 k l0 a2 a5 t285 t290 t291 t292 t293 t294 t295 t299 t300 true a3 a4))) else (if (t286.length : Int) > 0 then (mootlaw4_LedgerTells.j0 k l0 a2 a5 t285 t290 t291 t292 t293 t294 t295 t299 t300 true a3 a4) else (mootlaw4_LedgerTells.j0 k l0 a2 a5 t285 t290 t291 t292 t293 t294 t295 t299 t300 (t296 != t285) a3 a4))) else (mootlaw4_LedgerTells.j0 k l0 a2 a5 t285 t290 t291 t292 t293 t294 t295 t299 t300 true a3 a4))) else (mootlaw4_LedgerTells.j0 k l0 a2 a5 t285 t290 t291 t292 t293 t294 t295 t299 t300 true a3 a4)) = some r := H
        have A43 := Aside0.mk A430
        clear A430
        by_cases c44 : t312 = t285
        · rw [if_pos c44] at H
          have c44b0 : (t312 == t285) = true := beq_iff_eq.mpr c44
          have c44b1 : (t312 != t285) = false := bne_eq_false_iff_eq.mpr c44
          clear c44
          (first | rw [c44b0] | (simp only [i64_w, i32_w]; rw [c44b0]) | skip)
          replace H := Option.bind_eq_some_iff.mp H
          obtain ⟨t313, A450, H⟩ := H
          replace H : (if t289 = t313 then (if t289 = 0 then ((ledger_Entry_24.f k t286 y309).bind fun t314 => (if t314 = true then (mootlaw4_LedgerTells.j0 k l0 a2 a5 t285 t290 t291 t292 t293 t294 t295 t299 t300 (t296 != t285) a3 a4) else (mootlaw4_LedgerTells.j0 k l0 a2 a5 t285 t290 t291 t292 t293 t294 t295 t299 t300 true a3 a4))) else (if (t286.length : Int) > 0 then (mootlaw4_LedgerTells.j0 k l0 a2 a5 t285 t290 t291 t292 t293 t294 t295 t299 t300 true a3 a4) else (mootlaw4_LedgerTells.j0 k l0 a2 a5 t285 t290 t291 t292 t293 t294 t295 t299 t300 (t296 != t285) a3 a4))) else (mootlaw4_LedgerTells.j0 k l0 a2 a5 t285 t290 t291 t292 t293 t294 t295 t299 t300 true a3 a4)) = some r := H
          have A45 := Aside0.mk A450
          clear A450
          by_cases c46 : t289 = t313
          · rw [if_pos c46] at H
            have c46b0 : (t289 == t313) = true := beq_iff_eq.mpr c46
            have c46b1 : (t289 != t313) = false := bne_eq_false_iff_eq.mpr c46
            clear c46
            by_cases c47 : t289 = 0
            · rw [if_pos c47] at H
              have c47b0 : (t289 == 0) = true := beq_iff_eq.mpr c47
              have c47b1 : (t289 != 0) = false := bne_eq_false_iff_eq.mpr c47
              clear c47
              replace H := Option.bind_eq_some_iff.mp H
              obtain ⟨t314, A480, H⟩ := H
              replace H : (if t314 = true then (mootlaw4_LedgerTells.j0 k l0 a2 a5 t285 t290 t291 t292 t293 t294 t295 t299 t300 (t296 != t285) a3 a4) else (mootlaw4_LedgerTells.j0 k l0 a2 a5 t285 t290 t291 t292 t293 t294 t295 t299 t300 true a3 a4)) = some r := H
              have A48 := Aside0.mk A480
              clear A480
              by_cases c49 : t314 = true
              · subst c49
                have H1 : (mootlaw4_LedgerTells.j0 k l0 a2 a5 t285 t290 t291 t292 t293 t294 t295 t299 t300 (t296 != t285) a3 a4) = some r := by rw [if_pos rfl] at H; exact H
                clear H
                have H := H1
                clear H1
                have H' := Aside0.mk H
                clear H
                go_wp2_with (first | ((with_reducible refine gate_callee (f := 31) rfl ?_); refine goesL_ (some 79) rfl rfl Try.func31 (by kernel_rfl) rfl #[.slice A0 l0.length c0] rfl (by (try simp only [List.map_toArray, List.map_cons, List.map_nil]); first | done | rfl | (simp only [List.length_drop, List.length_take]; rfl)) ?_; (with_reducible refine (ledger_Check.calls k _ _ l0 t312 _ ?side1 ?side2 A43.out).mono ?_); (case side1 => repeat (first | exact (Kd.C_below HR0.out HB.out) | (with_reducible refine Kd.C_alloc ?_ _) | (with_reducible refine Kd.C_drewN ?_ _) | (with_reducible refine Kd.C_drew ?_))); (case side2 => exact HC0.out); rintro e w50 ⟨rfl, hb⟩; refine ⟨_, rfl, ?_⟩; have n0_ := Aside0.mk (Kd.R_below (by (with_reducible repeat (first | apply qk | apply qj | apply ql)); exact HO288.out) hb); have n1_ := Aside0.mk (Kd.R_below (by (with_reducible repeat (first | apply qk | apply qj | apply ql)); exact HO298.out) hb); have n2_ := Aside0.mk (Kd.R_below (by (with_reducible repeat (first | apply qk | apply qj | apply ql)); exact HO302.out) hb); have n3_ := Aside0.mk (Kd.R_below (by (with_reducible repeat (first | apply qk | apply qj | apply ql)); exact HO308.out) hb); have n4_ := Aside0.mk (Kd.R_below (by (with_reducible repeat (first | apply qk | apply qj | apply ql)); exact HO311.out) hb); have n5_ := Aside0.mk (blk_below (g := gb281) (o := .cells #[.int .i64 a1_0, .int .i64 a1_1, .int .i64 a1_2, .int .i64 a1_3] 35 (0, 0)) (by (with_reducible repeat (first | refine qa ?_ _ | refine qb ?_ | refine qc ?_ _)); exact BK281.out) hb); have n6_ := Aside0.mk (blk_below (g := gb282) (o := .cells #[.int .i64 a3] 3 (0, 0)) (by (with_reducible repeat (first | refine qa ?_ _ | refine qb ?_ | refine qc ?_ _)); exact BK282.out) hb); have n7_ := Aside0.mk (blk_below (g := gb283) (o := .cells #[.int .i64 a4] 3 (0, 0)) (by (with_reducible repeat (first | refine qa ?_ _ | refine qb ?_ | refine qc ?_ _)); exact BK283.out) hb); have n8_ := Aside0.mk (below_step (by repeat (first | (with_reducible first | exact HB.out | apply qg | apply qe | apply qf | refine qd ?_ GE281.out | refine qd ?_ GE282.out | refine qd ?_ GE283.out) | exact HB.out)) hb); clear HO288; clear HO298; clear HO302; clear HO308; clear HO311; clear BK281; clear BK282; clear BK283; clear HB; have HO288 := n0_; have HO298 := n1_; have HO302 := n2_; have HO308 := n3_; have HO311 := n4_; have BK281 := n5_; have BK282 := n6_; have BK283 := n7_; have HB := n8_; clear n0_ n1_ n2_ n3_ n4_ n5_ n6_ n7_ n8_; (try clear hb); (try clear hb2); (try clear hk); (try clear hi); obtain ⟨Ao51, co51, eo51⟩ := Kd.R_slice HO311.out; subst eo51) | (go_at_call 21; (with_reducible refine (mootlaw4_ledgerFault.calls k _ _ y309 t313 _ ?side1 ?side2 A45.out).mono ?_); (case side1 => repeat (first | exact (Kd.R_reads' HO311.out).2.2 | (with_reducible refine Kd.C_alloc ?_ _) | (with_reducible refine Kd.C_drewN ?_ _) | (with_reducible refine Kd.C_drew ?_))); (case side2 => exact (Kd.R_reads' HO311.out).2.1); rintro e w52 ⟨rfl, hb⟩; have n0_ := Aside0.mk (Kd.R_below (by (with_reducible repeat (first | apply qk | apply qj | apply ql)); exact HO288.out) hb); have n1_ := Aside0.mk (Kd.R_below (by (with_reducible repeat (first | apply qk | apply qj | apply ql)); exact HO298.out) hb); have n2_ := Aside0.mk (Kd.R_below (by (with_reducible repeat (first | apply qk | apply qj | apply ql)); exact HO302.out) hb); have n3_ := Aside0.mk (Kd.R_below (by (with_reducible repeat (first | apply qk | apply qj | apply ql)); exact HO308.out) hb); have n4_ := Aside0.mk (Kd.R_below (by (with_reducible repeat (first | apply qk | apply qj | apply ql)); exact HO311.out) hb); have n5_ := Aside0.mk (blk_below (g := gb281) (o := .cells #[.int .i64 a1_0, .int .i64 a1_1, .int .i64 a1_2, .int .i64 a1_3] 35 (0, 0)) (by (with_reducible repeat (first | refine qa ?_ _ | refine qb ?_ | refine qc ?_ _)); exact BK281.out) hb); have n6_ := Aside0.mk (blk_below (g := gb282) (o := .cells #[.int .i64 a3] 3 (0, 0)) (by (with_reducible repeat (first | refine qa ?_ _ | refine qb ?_ | refine qc ?_ _)); exact BK282.out) hb); have n7_ := Aside0.mk (blk_below (g := gb283) (o := .cells #[.int .i64 a4] 3 (0, 0)) (by (with_reducible repeat (first | refine qa ?_ _ | refine qb ?_ | refine qc ?_ _)); exact BK283.out) hb); have n8_ := Aside0.mk (below_step (by repeat (first | (with_reducible first | exact HB.out | apply qg | apply qe | apply qf | refine qd ?_ GE281.out | refine qd ?_ GE282.out | refine qd ?_ GE283.out) | exact HB.out)) hb); clear HO288; clear HO298; clear HO302; clear HO308; clear HO311; clear BK281; clear BK282; clear BK283; clear HB; have HO288 := n0_; have HO298 := n1_; have HO302 := n2_; have HO308 := n3_; have HO311 := n4_; have BK281 := n5_; have BK282 := n6_; have BK283 := n7_; have HB := n8_; clear n0_ n1_ n2_ n3_ n4_ n5_ n6_ n7_ n8_; (try clear hb); (try clear hb2); (try clear hk); (try clear hi); obtain ⟨Ao53, co53, eo53⟩ := Kd.R_slice HO288.out; subst eo53) | (go_at_call 24; (with_reducible refine (ledger_Entry_24.calls k _ _ t286 _ _ y309 true _ ?side1 ?side2 ?side3 ?side4 A48.out).mono ?_); (case side1 => repeat (first | exact (Kd.R_reads' HO288.out).2.2 | (with_reducible refine Kd.C_alloc ?_ _) | (with_reducible refine Kd.C_drewN ?_ _) | (with_reducible refine Kd.C_drew ?_))); (case side2 => exact (Kd.R_reads' HO288.out).2.1); (case side3 => repeat (first | exact (Kd.R_reads' HO311.out).2.2 | (with_reducible refine Kd.C_alloc ?_ _) | (with_reducible refine Kd.C_drewN ?_ _) | (with_reducible refine Kd.C_drew ?_))); (case side4 => exact (Kd.R_reads' HO311.out).2.1); rintro e w' ⟨rfl, ⟨nd, rfl⟩⟩))
                go_meet
                case rel => exact ⟨_, ((t296 != t285)), (by first | rfl | (simp; done) | (simp [*]; done)), H', ⟨by first | omega | exact Nat.le_refl _⟩, ⟨by (with_reducible repeat (first | apply qk | apply qj | apply ql)); exact HO298.out⟩, ⟨by (with_reducible repeat (first | apply qk | apply qj | apply ql)); exact Kd.R_mono HO302.out (fun _ hk => hk.1.2.2)⟩, ⟨by (with_reducible repeat (first | refine qa ?_ _ | refine qb ?_ | refine qc ?_ _)); exact BK281.out⟩, ⟨by (with_reducible repeat (first | refine qa ?_ _ | refine qb ?_ | refine qc ?_ _)); exact BK282.out⟩, ⟨by (with_reducible repeat (first | refine qa ?_ _ | refine qb ?_ | refine qc ?_ _)); exact BK283.out⟩, ⟨by repeat (first | (with_reducible first | exact HB.out | apply qg | apply qe | apply qf | refine qd ?_ GE281.out | refine qd ?_ GE282.out | refine qd ?_ GE283.out) | exact HB.out)⟩⟩
              · replace c49 := Bool.eq_false_iff.mpr c49
                subst c49
                have H1 : (mootlaw4_LedgerTells.j0 k l0 a2 a5 t285 t290 t291 t292 t293 t294 t295 t299 t300 true a3 a4) = some r := by rw [if_neg (show ¬ (false = true) by decide)] at H; exact H
                clear H
                have H := H1
                clear H1
                have H' := Aside0.mk H
                clear H
                go_wp2_with (first | ((with_reducible refine gate_callee (f := 31) rfl ?_); refine goesL_ (some 79) rfl rfl Try.func31 (by kernel_rfl) rfl #[.slice A0 l0.length c0] rfl (by (try simp only [List.map_toArray, List.map_cons, List.map_nil]); first | done | rfl | (simp only [List.length_drop, List.length_take]; rfl)) ?_; (with_reducible refine (ledger_Check.calls k _ _ l0 t312 _ ?side1 ?side2 A43.out).mono ?_); (case side1 => repeat (first | exact (Kd.C_below HR0.out HB.out) | (with_reducible refine Kd.C_alloc ?_ _) | (with_reducible refine Kd.C_drewN ?_ _) | (with_reducible refine Kd.C_drew ?_))); (case side2 => exact HC0.out); rintro e w54 ⟨rfl, hb⟩; refine ⟨_, rfl, ?_⟩; have n0_ := Aside0.mk (Kd.R_below (by (with_reducible repeat (first | apply qk | apply qj | apply ql)); exact HO288.out) hb); have n1_ := Aside0.mk (Kd.R_below (by (with_reducible repeat (first | apply qk | apply qj | apply ql)); exact HO298.out) hb); have n2_ := Aside0.mk (Kd.R_below (by (with_reducible repeat (first | apply qk | apply qj | apply ql)); exact HO302.out) hb); have n3_ := Aside0.mk (Kd.R_below (by (with_reducible repeat (first | apply qk | apply qj | apply ql)); exact HO308.out) hb); have n4_ := Aside0.mk (Kd.R_below (by (with_reducible repeat (first | apply qk | apply qj | apply ql)); exact HO311.out) hb); have n5_ := Aside0.mk (blk_below (g := gb281) (o := .cells #[.int .i64 a1_0, .int .i64 a1_1, .int .i64 a1_2, .int .i64 a1_3] 35 (0, 0)) (by (with_reducible repeat (first | refine qa ?_ _ | refine qb ?_ | refine qc ?_ _)); exact BK281.out) hb); have n6_ := Aside0.mk (blk_below (g := gb282) (o := .cells #[.int .i64 a3] 3 (0, 0)) (by (with_reducible repeat (first | refine qa ?_ _ | refine qb ?_ | refine qc ?_ _)); exact BK282.out) hb); have n7_ := Aside0.mk (blk_below (g := gb283) (o := .cells #[.int .i64 a4] 3 (0, 0)) (by (with_reducible repeat (first | refine qa ?_ _ | refine qb ?_ | refine qc ?_ _)); exact BK283.out) hb); have n8_ := Aside0.mk (below_step (by repeat (first | (with_reducible first | exact HB.out | apply qg | apply qe | apply qf | refine qd ?_ GE281.out | refine qd ?_ GE282.out | refine qd ?_ GE283.out) | exact HB.out)) hb); clear HO288; clear HO298; clear HO302; clear HO308; clear HO311; clear BK281; clear BK282; clear BK283; clear HB; have HO288 := n0_; have HO298 := n1_; have HO302 := n2_; have HO308 := n3_; have HO311 := n4_; have BK281 := n5_; have BK282 := n6_; have BK283 := n7_; have HB := n8_; clear n0_ n1_ n2_ n3_ n4_ n5_ n6_ n7_ n8_; (try clear hb); (try clear hb2); (try clear hk); (try clear hi); obtain ⟨Ao55, co55, eo55⟩ := Kd.R_slice HO311.out; subst eo55) | (go_at_call 21; (with_reducible refine (mootlaw4_ledgerFault.calls k _ _ y309 t313 _ ?side1 ?side2 A45.out).mono ?_); (case side1 => repeat (first | exact (Kd.R_reads' HO311.out).2.2 | (with_reducible refine Kd.C_alloc ?_ _) | (with_reducible refine Kd.C_drewN ?_ _) | (with_reducible refine Kd.C_drew ?_))); (case side2 => exact (Kd.R_reads' HO311.out).2.1); rintro e w56 ⟨rfl, hb⟩; have n0_ := Aside0.mk (Kd.R_below (by (with_reducible repeat (first | apply qk | apply qj | apply ql)); exact HO288.out) hb); have n1_ := Aside0.mk (Kd.R_below (by (with_reducible repeat (first | apply qk | apply qj | apply ql)); exact HO298.out) hb); have n2_ := Aside0.mk (Kd.R_below (by (with_reducible repeat (first | apply qk | apply qj | apply ql)); exact HO302.out) hb); have n3_ := Aside0.mk (Kd.R_below (by (with_reducible repeat (first | apply qk | apply qj | apply ql)); exact HO308.out) hb); have n4_ := Aside0.mk (Kd.R_below (by (with_reducible repeat (first | apply qk | apply qj | apply ql)); exact HO311.out) hb); have n5_ := Aside0.mk (blk_below (g := gb281) (o := .cells #[.int .i64 a1_0, .int .i64 a1_1, .int .i64 a1_2, .int .i64 a1_3] 35 (0, 0)) (by (with_reducible repeat (first | refine qa ?_ _ | refine qb ?_ | refine qc ?_ _)); exact BK281.out) hb); have n6_ := Aside0.mk (blk_below (g := gb282) (o := .cells #[.int .i64 a3] 3 (0, 0)) (by (with_reducible repeat (first | refine qa ?_ _ | refine qb ?_ | refine qc ?_ _)); exact BK282.out) hb); have n7_ := Aside0.mk (blk_below (g := gb283) (o := .cells #[.int .i64 a4] 3 (0, 0)) (by (with_reducible repeat (first | refine qa ?_ _ | refine qb ?_ | refine qc ?_ _)); exact BK283.out) hb); have n8_ := Aside0.mk (below_step (by repeat (first | (with_reducible first | exact HB.out | apply qg | apply qe | apply qf | refine qd ?_ GE281.out | refine qd ?_ GE282.out | refine qd ?_ GE283.out) | exact HB.out)) hb); clear HO288; clear HO298; clear HO302; clear HO308; clear HO311; clear BK281; clear BK282; clear BK283; clear HB; have HO288 := n0_; have HO298 := n1_; have HO302 := n2_; have HO308 := n3_; have HO311 := n4_; have BK281 := n5_; have BK282 := n6_; have BK283 := n7_; have HB := n8_; clear n0_ n1_ n2_ n3_ n4_ n5_ n6_ n7_ n8_; (try clear hb); (try clear hb2); (try clear hk); (try clear hi); obtain ⟨Ao57, co57, eo57⟩ := Kd.R_slice HO288.out; subst eo57) | (go_at_call 24; (with_reducible refine (ledger_Entry_24.calls k _ _ t286 _ _ y309 false _ ?side1 ?side2 ?side3 ?side4 A48.out).mono ?_); (case side1 => repeat (first | exact (Kd.R_reads' HO288.out).2.2 | (with_reducible refine Kd.C_alloc ?_ _) | (with_reducible refine Kd.C_drewN ?_ _) | (with_reducible refine Kd.C_drew ?_))); (case side2 => exact (Kd.R_reads' HO288.out).2.1); (case side3 => repeat (first | exact (Kd.R_reads' HO311.out).2.2 | (with_reducible refine Kd.C_alloc ?_ _) | (with_reducible refine Kd.C_drewN ?_ _) | (with_reducible refine Kd.C_drew ?_))); (case side4 => exact (Kd.R_reads' HO311.out).2.1); rintro e w' ⟨rfl, ⟨nd, rfl⟩⟩))
                go_meet
                case rel => exact ⟨_, (true), (by first | rfl | (simp; done) | (simp [*]; done)), H', ⟨by first | omega | exact Nat.le_refl _⟩, ⟨by (with_reducible repeat (first | apply qk | apply qj | apply ql)); exact HO298.out⟩, ⟨by (with_reducible repeat (first | apply qk | apply qj | apply ql)); exact Kd.R_mono HO302.out (fun _ hk => hk.1.2.2)⟩, ⟨by (with_reducible repeat (first | refine qa ?_ _ | refine qb ?_ | refine qc ?_ _)); exact BK281.out⟩, ⟨by (with_reducible repeat (first | refine qa ?_ _ | refine qb ?_ | refine qc ?_ _)); exact BK282.out⟩, ⟨by (with_reducible repeat (first | refine qa ?_ _ | refine qb ?_ | refine qc ?_ _)); exact BK283.out⟩, ⟨by repeat (first | (with_reducible first | exact HB.out | apply qg | apply qe | apply qf | refine qd ?_ GE281.out | refine qd ?_ GE282.out | refine qd ?_ GE283.out) | exact HB.out)⟩⟩
            · rw [if_neg c47] at H
              have c47b0 : (t289 == 0) = false := beq_eq_false_iff_ne.mpr c47
              have c47b1 : (t289 != 0) = true := bne_iff_ne.mpr c47
              by_cases c58 : (t286.length : Int) > 0
              · rw [if_pos c58] at H
                have c58b0 : decide (0 < (t286.length : Int)) = true := decide_eq_true c58
                have c58b1 : decide (0 < t286.length) = true := decide_eq_true (by omega)
                clear c58
                have H' := Aside0.mk H
                clear H
                go_wp2_with (first | ((with_reducible refine gate_callee (f := 31) rfl ?_); refine goesL_ (some 79) rfl rfl Try.func31 (by kernel_rfl) rfl #[.slice A0 l0.length c0] rfl (by (try simp only [List.map_toArray, List.map_cons, List.map_nil]); first | done | rfl | (simp only [List.length_drop, List.length_take]; rfl)) ?_; (with_reducible refine (ledger_Check.calls k _ _ l0 t312 _ ?side1 ?side2 A43.out).mono ?_); (case side1 => repeat (first | exact (Kd.C_below HR0.out HB.out) | (with_reducible refine Kd.C_alloc ?_ _) | (with_reducible refine Kd.C_drewN ?_ _) | (with_reducible refine Kd.C_drew ?_))); (case side2 => exact HC0.out); rintro e w59 ⟨rfl, hb⟩; refine ⟨_, rfl, ?_⟩; have n0_ := Aside0.mk (Kd.R_below (by (with_reducible repeat (first | apply qk | apply qj | apply ql)); exact HO288.out) hb); have n1_ := Aside0.mk (Kd.R_below (by (with_reducible repeat (first | apply qk | apply qj | apply ql)); exact HO298.out) hb); have n2_ := Aside0.mk (Kd.R_below (by (with_reducible repeat (first | apply qk | apply qj | apply ql)); exact HO302.out) hb); have n3_ := Aside0.mk (Kd.R_below (by (with_reducible repeat (first | apply qk | apply qj | apply ql)); exact HO308.out) hb); have n4_ := Aside0.mk (Kd.R_below (by (with_reducible repeat (first | apply qk | apply qj | apply ql)); exact HO311.out) hb); have n5_ := Aside0.mk (blk_below (g := gb281) (o := .cells #[.int .i64 a1_0, .int .i64 a1_1, .int .i64 a1_2, .int .i64 a1_3] 35 (0, 0)) (by (with_reducible repeat (first | refine qa ?_ _ | refine qb ?_ | refine qc ?_ _)); exact BK281.out) hb); have n6_ := Aside0.mk (blk_below (g := gb282) (o := .cells #[.int .i64 a3] 3 (0, 0)) (by (with_reducible repeat (first | refine qa ?_ _ | refine qb ?_ | refine qc ?_ _)); exact BK282.out) hb); have n7_ := Aside0.mk (blk_below (g := gb283) (o := .cells #[.int .i64 a4] 3 (0, 0)) (by (with_reducible repeat (first | refine qa ?_ _ | refine qb ?_ | refine qc ?_ _)); exact BK283.out) hb); have n8_ := Aside0.mk (below_step (by repeat (first | (with_reducible first | exact HB.out | apply qg | apply qe | apply qf | refine qd ?_ GE281.out | refine qd ?_ GE282.out | refine qd ?_ GE283.out) | exact HB.out)) hb); clear HO288; clear HO298; clear HO302; clear HO308; clear HO311; clear BK281; clear BK282; clear BK283; clear HB; have HO288 := n0_; have HO298 := n1_; have HO302 := n2_; have HO308 := n3_; have HO311 := n4_; have BK281 := n5_; have BK282 := n6_; have BK283 := n7_; have HB := n8_; clear n0_ n1_ n2_ n3_ n4_ n5_ n6_ n7_ n8_; (try clear hb); (try clear hb2); (try clear hk); (try clear hi); obtain ⟨Ao60, co60, eo60⟩ := Kd.R_slice HO311.out; subst eo60) | (go_at_call 21; (with_reducible refine (mootlaw4_ledgerFault.calls k _ _ y309 t313 _ ?side1 ?side2 A45.out).mono ?_); (case side1 => repeat (first | exact (Kd.R_reads' HO311.out).2.2 | (with_reducible refine Kd.C_alloc ?_ _) | (with_reducible refine Kd.C_drewN ?_ _) | (with_reducible refine Kd.C_drew ?_))); (case side2 => exact (Kd.R_reads' HO311.out).2.1); rintro e w61 ⟨rfl, hb⟩; have n0_ := Aside0.mk (Kd.R_below (by (with_reducible repeat (first | apply qk | apply qj | apply ql)); exact HO288.out) hb); have n1_ := Aside0.mk (Kd.R_below (by (with_reducible repeat (first | apply qk | apply qj | apply ql)); exact HO298.out) hb); have n2_ := Aside0.mk (Kd.R_below (by (with_reducible repeat (first | apply qk | apply qj | apply ql)); exact HO302.out) hb); have n3_ := Aside0.mk (Kd.R_below (by (with_reducible repeat (first | apply qk | apply qj | apply ql)); exact HO308.out) hb); have n4_ := Aside0.mk (Kd.R_below (by (with_reducible repeat (first | apply qk | apply qj | apply ql)); exact HO311.out) hb); have n5_ := Aside0.mk (blk_below (g := gb281) (o := .cells #[.int .i64 a1_0, .int .i64 a1_1, .int .i64 a1_2, .int .i64 a1_3] 35 (0, 0)) (by (with_reducible repeat (first | refine qa ?_ _ | refine qb ?_ | refine qc ?_ _)); exact BK281.out) hb); have n6_ := Aside0.mk (blk_below (g := gb282) (o := .cells #[.int .i64 a3] 3 (0, 0)) (by (with_reducible repeat (first | refine qa ?_ _ | refine qb ?_ | refine qc ?_ _)); exact BK282.out) hb); have n7_ := Aside0.mk (blk_below (g := gb283) (o := .cells #[.int .i64 a4] 3 (0, 0)) (by (with_reducible repeat (first | refine qa ?_ _ | refine qb ?_ | refine qc ?_ _)); exact BK283.out) hb); have n8_ := Aside0.mk (below_step (by repeat (first | (with_reducible first | exact HB.out | apply qg | apply qe | apply qf | refine qd ?_ GE281.out | refine qd ?_ GE282.out | refine qd ?_ GE283.out) | exact HB.out)) hb); clear HO288; clear HO298; clear HO302; clear HO308; clear HO311; clear BK281; clear BK282; clear BK283; clear HB; have HO288 := n0_; have HO298 := n1_; have HO302 := n2_; have HO308 := n3_; have HO311 := n4_; have BK281 := n5_; have BK282 := n6_; have BK283 := n7_; have HB := n8_; clear n0_ n1_ n2_ n3_ n4_ n5_ n6_ n7_ n8_; (try clear hb); (try clear hb2); (try clear hk); (try clear hi); obtain ⟨Ao62, co62, eo62⟩ := Kd.R_slice HO288.out; subst eo62))
                go_meet
                case rel => exact ⟨_, (true), (by first | rfl | (simp; done) | (simp [*]; done)), H', ⟨by first | omega | exact Nat.le_refl _⟩, ⟨by (with_reducible repeat (first | apply qk | apply qj | apply ql)); exact HO298.out⟩, ⟨by (with_reducible repeat (first | apply qk | apply qj | apply ql)); exact Kd.R_mono HO302.out (fun _ hk => hk.1.2.2)⟩, ⟨by (with_reducible repeat (first | refine qa ?_ _ | refine qb ?_ | refine qc ?_ _)); exact BK281.out⟩, ⟨by (with_reducible repeat (first | refine qa ?_ _ | refine qb ?_ | refine qc ?_ _)); exact BK282.out⟩, ⟨by (with_reducible repeat (first | refine qa ?_ _ | refine qb ?_ | refine qc ?_ _)); exact BK283.out⟩, ⟨by repeat (first | (with_reducible first | exact HB.out | apply qg | apply qe | apply qf | refine qd ?_ GE281.out | refine qd ?_ GE282.out | refine qd ?_ GE283.out) | exact HB.out)⟩⟩
              · rw [if_neg c58] at H
                have c58b0 : decide (0 < (t286.length : Int)) = false := decide_eq_false c58
                have c58b1 : decide (0 < t286.length) = false := decide_eq_false (by omega)
                clear c58
                have H' := Aside0.mk H
                clear H
                go_wp2_with (first | ((with_reducible refine gate_callee (f := 31) rfl ?_); refine goesL_ (some 79) rfl rfl Try.func31 (by kernel_rfl) rfl #[.slice A0 l0.length c0] rfl (by (try simp only [List.map_toArray, List.map_cons, List.map_nil]); first | done | rfl | (simp only [List.length_drop, List.length_take]; rfl)) ?_; (with_reducible refine (ledger_Check.calls k _ _ l0 t312 _ ?side1 ?side2 A43.out).mono ?_); (case side1 => repeat (first | exact (Kd.C_below HR0.out HB.out) | (with_reducible refine Kd.C_alloc ?_ _) | (with_reducible refine Kd.C_drewN ?_ _) | (with_reducible refine Kd.C_drew ?_))); (case side2 => exact HC0.out); rintro e w63 ⟨rfl, hb⟩; refine ⟨_, rfl, ?_⟩; have n0_ := Aside0.mk (Kd.R_below (by (with_reducible repeat (first | apply qk | apply qj | apply ql)); exact HO288.out) hb); have n1_ := Aside0.mk (Kd.R_below (by (with_reducible repeat (first | apply qk | apply qj | apply ql)); exact HO298.out) hb); have n2_ := Aside0.mk (Kd.R_below (by (with_reducible repeat (first | apply qk | apply qj | apply ql)); exact HO302.out) hb); have n3_ := Aside0.mk (Kd.R_below (by (with_reducible repeat (first | apply qk | apply qj | apply ql)); exact HO308.out) hb); have n4_ := Aside0.mk (Kd.R_below (by (with_reducible repeat (first | apply qk | apply qj | apply ql)); exact HO311.out) hb); have n5_ := Aside0.mk (blk_below (g := gb281) (o := .cells #[.int .i64 a1_0, .int .i64 a1_1, .int .i64 a1_2, .int .i64 a1_3] 35 (0, 0)) (by (with_reducible repeat (first | refine qa ?_ _ | refine qb ?_ | refine qc ?_ _)); exact BK281.out) hb); have n6_ := Aside0.mk (blk_below (g := gb282) (o := .cells #[.int .i64 a3] 3 (0, 0)) (by (with_reducible repeat (first | refine qa ?_ _ | refine qb ?_ | refine qc ?_ _)); exact BK282.out) hb); have n7_ := Aside0.mk (blk_below (g := gb283) (o := .cells #[.int .i64 a4] 3 (0, 0)) (by (with_reducible repeat (first | refine qa ?_ _ | refine qb ?_ | refine qc ?_ _)); exact BK283.out) hb); have n8_ := Aside0.mk (below_step (by repeat (first | (with_reducible first | exact HB.out | apply qg | apply qe | apply qf | refine qd ?_ GE281.out | refine qd ?_ GE282.out | refine qd ?_ GE283.out) | exact HB.out)) hb); clear HO288; clear HO298; clear HO302; clear HO308; clear HO311; clear BK281; clear BK282; clear BK283; clear HB; have HO288 := n0_; have HO298 := n1_; have HO302 := n2_; have HO308 := n3_; have HO311 := n4_; have BK281 := n5_; have BK282 := n6_; have BK283 := n7_; have HB := n8_; clear n0_ n1_ n2_ n3_ n4_ n5_ n6_ n7_ n8_; (try clear hb); (try clear hb2); (try clear hk); (try clear hi); obtain ⟨Ao64, co64, eo64⟩ := Kd.R_slice HO311.out; subst eo64) | (go_at_call 21; (with_reducible refine (mootlaw4_ledgerFault.calls k _ _ y309 t313 _ ?side1 ?side2 A45.out).mono ?_); (case side1 => repeat (first | exact (Kd.R_reads' HO311.out).2.2 | (with_reducible refine Kd.C_alloc ?_ _) | (with_reducible refine Kd.C_drewN ?_ _) | (with_reducible refine Kd.C_drew ?_))); (case side2 => exact (Kd.R_reads' HO311.out).2.1); rintro e w65 ⟨rfl, hb⟩; have n0_ := Aside0.mk (Kd.R_below (by (with_reducible repeat (first | apply qk | apply qj | apply ql)); exact HO288.out) hb); have n1_ := Aside0.mk (Kd.R_below (by (with_reducible repeat (first | apply qk | apply qj | apply ql)); exact HO298.out) hb); have n2_ := Aside0.mk (Kd.R_below (by (with_reducible repeat (first | apply qk | apply qj | apply ql)); exact HO302.out) hb); have n3_ := Aside0.mk (Kd.R_below (by (with_reducible repeat (first | apply qk | apply qj | apply ql)); exact HO308.out) hb); have n4_ := Aside0.mk (Kd.R_below (by (with_reducible repeat (first | apply qk | apply qj | apply ql)); exact HO311.out) hb); have n5_ := Aside0.mk (blk_below (g := gb281) (o := .cells #[.int .i64 a1_0, .int .i64 a1_1, .int .i64 a1_2, .int .i64 a1_3] 35 (0, 0)) (by (with_reducible repeat (first | refine qa ?_ _ | refine qb ?_ | refine qc ?_ _)); exact BK281.out) hb); have n6_ := Aside0.mk (blk_below (g := gb282) (o := .cells #[.int .i64 a3] 3 (0, 0)) (by (with_reducible repeat (first | refine qa ?_ _ | refine qb ?_ | refine qc ?_ _)); exact BK282.out) hb); have n7_ := Aside0.mk (blk_below (g := gb283) (o := .cells #[.int .i64 a4] 3 (0, 0)) (by (with_reducible repeat (first | refine qa ?_ _ | refine qb ?_ | refine qc ?_ _)); exact BK283.out) hb); have n8_ := Aside0.mk (below_step (by repeat (first | (with_reducible first | exact HB.out | apply qg | apply qe | apply qf | refine qd ?_ GE281.out | refine qd ?_ GE282.out | refine qd ?_ GE283.out) | exact HB.out)) hb); clear HO288; clear HO298; clear HO302; clear HO308; clear HO311; clear BK281; clear BK282; clear BK283; clear HB; have HO288 := n0_; have HO298 := n1_; have HO302 := n2_; have HO308 := n3_; have HO311 := n4_; have BK281 := n5_; have BK282 := n6_; have BK283 := n7_; have HB := n8_; clear n0_ n1_ n2_ n3_ n4_ n5_ n6_ n7_ n8_; (try clear hb); (try clear hb2); (try clear hk); (try clear hi); obtain ⟨Ao66, co66, eo66⟩ := Kd.R_slice HO288.out; subst eo66))
                go_meet
                case rel => exact ⟨_, ((t296 != t285)), (by first | rfl | (simp; done) | (simp [*]; done)), H', ⟨by first | omega | exact Nat.le_refl _⟩, ⟨by (with_reducible repeat (first | apply qk | apply qj | apply ql)); exact HO298.out⟩, ⟨by (with_reducible repeat (first | apply qk | apply qj | apply ql)); exact Kd.R_mono HO302.out (fun _ hk => hk.1.2.2)⟩, ⟨by (with_reducible repeat (first | refine qa ?_ _ | refine qb ?_ | refine qc ?_ _)); exact BK281.out⟩, ⟨by (with_reducible repeat (first | refine qa ?_ _ | refine qb ?_ | refine qc ?_ _)); exact BK282.out⟩, ⟨by (with_reducible repeat (first | refine qa ?_ _ | refine qb ?_ | refine qc ?_ _)); exact BK283.out⟩, ⟨by repeat (first | (with_reducible first | exact HB.out | apply qg | apply qe | apply qf | refine qd ?_ GE281.out | refine qd ?_ GE282.out | refine qd ?_ GE283.out) | exact HB.out)⟩⟩
          · rw [if_neg c46] at H
            have c46b0 : (t289 == t313) = false := beq_eq_false_iff_ne.mpr c46
            have c46b1 : (t289 != t313) = true := bne_iff_ne.mpr c46
            have H' := Aside0.mk H
            clear H
            go_wp2_with (first | ((with_reducible refine gate_callee (f := 31) rfl ?_); refine goesL_ (some 79) rfl rfl Try.func31 (by kernel_rfl) rfl #[.slice A0 l0.length c0] rfl (by (try simp only [List.map_toArray, List.map_cons, List.map_nil]); first | done | rfl | (simp only [List.length_drop, List.length_take]; rfl)) ?_; (with_reducible refine (ledger_Check.calls k _ _ l0 t312 _ ?side1 ?side2 A43.out).mono ?_); (case side1 => repeat (first | exact (Kd.C_below HR0.out HB.out) | (with_reducible refine Kd.C_alloc ?_ _) | (with_reducible refine Kd.C_drewN ?_ _) | (with_reducible refine Kd.C_drew ?_))); (case side2 => exact HC0.out); rintro e w67 ⟨rfl, hb⟩; refine ⟨_, rfl, ?_⟩; have n0_ := Aside0.mk (Kd.R_below (by (with_reducible repeat (first | apply qk | apply qj | apply ql)); exact HO288.out) hb); have n1_ := Aside0.mk (Kd.R_below (by (with_reducible repeat (first | apply qk | apply qj | apply ql)); exact HO298.out) hb); have n2_ := Aside0.mk (Kd.R_below (by (with_reducible repeat (first | apply qk | apply qj | apply ql)); exact HO302.out) hb); have n3_ := Aside0.mk (Kd.R_below (by (with_reducible repeat (first | apply qk | apply qj | apply ql)); exact HO308.out) hb); have n4_ := Aside0.mk (Kd.R_below (by (with_reducible repeat (first | apply qk | apply qj | apply ql)); exact HO311.out) hb); have n5_ := Aside0.mk (blk_below (g := gb281) (o := .cells #[.int .i64 a1_0, .int .i64 a1_1, .int .i64 a1_2, .int .i64 a1_3] 35 (0, 0)) (by (with_reducible repeat (first | refine qa ?_ _ | refine qb ?_ | refine qc ?_ _)); exact BK281.out) hb); have n6_ := Aside0.mk (blk_below (g := gb282) (o := .cells #[.int .i64 a3] 3 (0, 0)) (by (with_reducible repeat (first | refine qa ?_ _ | refine qb ?_ | refine qc ?_ _)); exact BK282.out) hb); have n7_ := Aside0.mk (blk_below (g := gb283) (o := .cells #[.int .i64 a4] 3 (0, 0)) (by (with_reducible repeat (first | refine qa ?_ _ | refine qb ?_ | refine qc ?_ _)); exact BK283.out) hb); have n8_ := Aside0.mk (below_step (by repeat (first | (with_reducible first | exact HB.out | apply qg | apply qe | apply qf | refine qd ?_ GE281.out | refine qd ?_ GE282.out | refine qd ?_ GE283.out) | exact HB.out)) hb); clear HO288; clear HO298; clear HO302; clear HO308; clear HO311; clear BK281; clear BK282; clear BK283; clear HB; have HO288 := n0_; have HO298 := n1_; have HO302 := n2_; have HO308 := n3_; have HO311 := n4_; have BK281 := n5_; have BK282 := n6_; have BK283 := n7_; have HB := n8_; clear n0_ n1_ n2_ n3_ n4_ n5_ n6_ n7_ n8_; (try clear hb); (try clear hb2); (try clear hk); (try clear hi); obtain ⟨Ao68, co68, eo68⟩ := Kd.R_slice HO311.out; subst eo68) | (go_at_call 21; (with_reducible refine (mootlaw4_ledgerFault.calls k _ _ y309 t313 _ ?side1 ?side2 A45.out).mono ?_); (case side1 => repeat (first | exact (Kd.R_reads' HO311.out).2.2 | (with_reducible refine Kd.C_alloc ?_ _) | (with_reducible refine Kd.C_drewN ?_ _) | (with_reducible refine Kd.C_drew ?_))); (case side2 => exact (Kd.R_reads' HO311.out).2.1); rintro e w69 ⟨rfl, hb⟩; have n0_ := Aside0.mk (Kd.R_below (by (with_reducible repeat (first | apply qk | apply qj | apply ql)); exact HO288.out) hb); have n1_ := Aside0.mk (Kd.R_below (by (with_reducible repeat (first | apply qk | apply qj | apply ql)); exact HO298.out) hb); have n2_ := Aside0.mk (Kd.R_below (by (with_reducible repeat (first | apply qk | apply qj | apply ql)); exact HO302.out) hb); have n3_ := Aside0.mk (Kd.R_below (by (with_reducible repeat (first | apply qk | apply qj | apply ql)); exact HO308.out) hb); have n4_ := Aside0.mk (Kd.R_below (by (with_reducible repeat (first | apply qk | apply qj | apply ql)); exact HO311.out) hb); have n5_ := Aside0.mk (blk_below (g := gb281) (o := .cells #[.int .i64 a1_0, .int .i64 a1_1, .int .i64 a1_2, .int .i64 a1_3] 35 (0, 0)) (by (with_reducible repeat (first | refine qa ?_ _ | refine qb ?_ | refine qc ?_ _)); exact BK281.out) hb); have n6_ := Aside0.mk (blk_below (g := gb282) (o := .cells #[.int .i64 a3] 3 (0, 0)) (by (with_reducible repeat (first | refine qa ?_ _ | refine qb ?_ | refine qc ?_ _)); exact BK282.out) hb); have n7_ := Aside0.mk (blk_below (g := gb283) (o := .cells #[.int .i64 a4] 3 (0, 0)) (by (with_reducible repeat (first | refine qa ?_ _ | refine qb ?_ | refine qc ?_ _)); exact BK283.out) hb); have n8_ := Aside0.mk (below_step (by repeat (first | (with_reducible first | exact HB.out | apply qg | apply qe | apply qf | refine qd ?_ GE281.out | refine qd ?_ GE282.out | refine qd ?_ GE283.out) | exact HB.out)) hb); clear HO288; clear HO298; clear HO302; clear HO308; clear HO311; clear BK281; clear BK282; clear BK283; clear HB; have HO288 := n0_; have HO298 := n1_; have HO302 := n2_; have HO308 := n3_; have HO311 := n4_; have BK281 := n5_; have BK282 := n6_; have BK283 := n7_; have HB := n8_; clear n0_ n1_ n2_ n3_ n4_ n5_ n6_ n7_ n8_; (try clear hb); (try clear hb2); (try clear hk); (try clear hi)))
            go_meet
            case rel => exact ⟨_, (true), (by first | rfl | (simp; done) | (simp [*]; done)), H', ⟨by first | omega | exact Nat.le_refl _⟩, ⟨by (with_reducible repeat (first | apply qk | apply qj | apply ql)); exact HO298.out⟩, ⟨by (with_reducible repeat (first | apply qk | apply qj | apply ql)); exact Kd.R_mono HO302.out (fun _ hk => hk.1.2.2)⟩, ⟨by (with_reducible repeat (first | refine qa ?_ _ | refine qb ?_ | refine qc ?_ _)); exact BK281.out⟩, ⟨by (with_reducible repeat (first | refine qa ?_ _ | refine qb ?_ | refine qc ?_ _)); exact BK282.out⟩, ⟨by (with_reducible repeat (first | refine qa ?_ _ | refine qb ?_ | refine qc ?_ _)); exact BK283.out⟩, ⟨by repeat (first | (with_reducible first | exact HB.out | apply qg | apply qe | apply qf | refine qd ?_ GE281.out | refine qd ?_ GE282.out | refine qd ?_ GE283.out) | exact HB.out)⟩⟩
        · rw [if_neg c44] at H
          have c44b0 : (t312 == t285) = false := beq_eq_false_iff_ne.mpr c44
          have c44b1 : (t312 != t285) = true := bne_iff_ne.mpr c44
          (first | rw [c44b0] | (simp only [i64_w, i32_w]; rw [c44b0]) | skip)
          have H' := Aside0.mk H
          clear H
          go_wp2_with (first | ((with_reducible refine gate_callee (f := 31) rfl ?_); refine goesL_ (some 79) rfl rfl Try.func31 (by kernel_rfl) rfl #[.slice A0 l0.length c0] rfl (by (try simp only [List.map_toArray, List.map_cons, List.map_nil]); first | done | rfl | (simp only [List.length_drop, List.length_take]; rfl)) ?_; (with_reducible refine (ledger_Check.calls k _ _ l0 t312 _ ?side1 ?side2 A43.out).mono ?_); (case side1 => repeat (first | exact (Kd.C_below HR0.out HB.out) | (with_reducible refine Kd.C_alloc ?_ _) | (with_reducible refine Kd.C_drewN ?_ _) | (with_reducible refine Kd.C_drew ?_))); (case side2 => exact HC0.out); rintro e w70 ⟨rfl, hb⟩; refine ⟨_, rfl, ?_⟩; have n0_ := Aside0.mk (Kd.R_below (by (with_reducible repeat (first | apply qk | apply qj | apply ql)); exact HO288.out) hb); have n1_ := Aside0.mk (Kd.R_below (by (with_reducible repeat (first | apply qk | apply qj | apply ql)); exact HO298.out) hb); have n2_ := Aside0.mk (Kd.R_below (by (with_reducible repeat (first | apply qk | apply qj | apply ql)); exact HO302.out) hb); have n3_ := Aside0.mk (Kd.R_below (by (with_reducible repeat (first | apply qk | apply qj | apply ql)); exact HO308.out) hb); have n4_ := Aside0.mk (Kd.R_below (by (with_reducible repeat (first | apply qk | apply qj | apply ql)); exact HO311.out) hb); have n5_ := Aside0.mk (blk_below (g := gb281) (o := .cells #[.int .i64 a1_0, .int .i64 a1_1, .int .i64 a1_2, .int .i64 a1_3] 35 (0, 0)) (by (with_reducible repeat (first | refine qa ?_ _ | refine qb ?_ | refine qc ?_ _)); exact BK281.out) hb); have n6_ := Aside0.mk (blk_below (g := gb282) (o := .cells #[.int .i64 a3] 3 (0, 0)) (by (with_reducible repeat (first | refine qa ?_ _ | refine qb ?_ | refine qc ?_ _)); exact BK282.out) hb); have n7_ := Aside0.mk (blk_below (g := gb283) (o := .cells #[.int .i64 a4] 3 (0, 0)) (by (with_reducible repeat (first | refine qa ?_ _ | refine qb ?_ | refine qc ?_ _)); exact BK283.out) hb); have n8_ := Aside0.mk (below_step (by repeat (first | (with_reducible first | exact HB.out | apply qg | apply qe | apply qf | refine qd ?_ GE281.out | refine qd ?_ GE282.out | refine qd ?_ GE283.out) | exact HB.out)) hb); clear HO288; clear HO298; clear HO302; clear HO308; clear HO311; clear BK281; clear BK282; clear BK283; clear HB; have HO288 := n0_; have HO298 := n1_; have HO302 := n2_; have HO308 := n3_; have HO311 := n4_; have BK281 := n5_; have BK282 := n6_; have BK283 := n7_; have HB := n8_; clear n0_ n1_ n2_ n3_ n4_ n5_ n6_ n7_ n8_; (try clear hb); (try clear hb2); (try clear hk); (try clear hi)))
          go_meet
          case rel => exact ⟨_, (true), (by first | rfl | (simp; done) | (simp [*]; done)), H', ⟨by first | omega | exact Nat.le_refl _⟩, ⟨by (with_reducible repeat (first | apply qk | apply qj | apply ql)); exact HO298.out⟩, ⟨by (with_reducible repeat (first | apply qk | apply qj | apply ql)); exact Kd.R_mono HO302.out (fun _ hk => hk.1.2.2)⟩, ⟨by (with_reducible repeat (first | refine qa ?_ _ | refine qb ?_ | refine qc ?_ _)); exact BK281.out⟩, ⟨by (with_reducible repeat (first | refine qa ?_ _ | refine qb ?_ | refine qc ?_ _)); exact BK282.out⟩, ⟨by (with_reducible repeat (first | refine qa ?_ _ | refine qb ?_ | refine qc ?_ _)); exact BK283.out⟩, ⟨by repeat (first | (with_reducible first | exact HB.out | apply qg | apply qe | apply qf | refine qd ?_ GE281.out | refine qd ?_ GE282.out | refine qd ?_ GE283.out) | exact HB.out)⟩⟩
      case rest =>
        clear HC17
        try clear c1
        try clear c2
        try clear p2
        try clear c3
        try clear c4
        try clear c5
        try clear c8
        try clear c12
        try clear c14
        try clear c16
        try clear c18
        try clear c19
        try clear c21
        try clear c23
        try clear c24
        try clear c27
        try clear c29
        try clear c30
        try clear c31
        try clear c44
        try clear c44b0
        try clear c44b1
        try clear c46
        try clear c46b0
        try clear c46b1
        try clear c47
        try clear c47b0
        try clear c47b1
        try clear c49
        try clear c58
        try clear c58b0
        try clear c58b1
        try clear hcz25_0
        try clear hcz25_1
        try clear hcz25_2
        try clear hcz25_3
        try clear hcz28_0
        try clear hcz30_0
        try clear hcz31_0
        try clear hcz34_0
        try clear hfz25_0
        try clear hfz25_1
        try clear hfz25_2
        try clear hfz25_3
        try clear hfz28_0
        try clear hfz30_0
        try clear hfz31_0
        try clear hfz34_0
        obtain ⟨kq, x111_16, rfl, HA, HJ16, HO_21, HO_23, BK281, BK282, BK283, HB⟩ := hcut
        cases kq with
        | zero => exact absurd HA.out (by simp [mootlaw4_LedgerTells.j0])
        | succ kj16 =>
          have H := HA.out
          clear HA
          simp only [mootlaw4_LedgerTells.j0] at H
          by_cases c71 : x111_16 = true
          · subst c71
            have H1 : (some false) = some r := by rw [if_pos rfl] at H; exact H
            clear H
            have H := H1
            clear H1
            obtain rfl := Option.some.inj H
            go_wp2
            go_ret
            exact ⟨by first | rfl | (simp [errW_none, errW_some] <;> rfl) | (simp [*, errW_none, errW_some] <;> rfl), by repeat (first | (with_reducible first | exact HB.out | apply qg | apply qe | apply qf | refine qd ?_ GE281.out | refine qd ?_ GE282.out | refine qd ?_ GE283.out) | exact HB.out)⟩
          · replace c71 := Bool.eq_false_iff.mpr c71
            subst c71
            have H1 : (if t285 = 0 then (if a5 < 0 then (mootlaw4_LedgerTells.j1 kj16 l0 a2 a5 t290 t291 t292 t293 t294 t295 t299 t300 true a3 a4) else (mootlaw4_LedgerTells.j1 kj16 l0 a2 a5 t290 t291 t292 t293 t294 t295 t299 t300 (decide (a5 ≥ (l0.length : Int))) a3 a4)) else (if t291 = t285 then (if t294 = t285 then (if t300 = t285 then (some ((wrap64 ((wrap64 ((wrap64 ((wrap64 (t290 + t292)) + t293)) + (t295.length : Int))) + (t299.length : Int))) == 0)) else (some false)) else (some false)) else (some false))) = some r := by rw [if_neg (show ¬ (false = true) by decide)] at H; exact H
            clear H
            have H := H1
            clear H1
            by_cases c72 : t285 = 0
            · rw [if_pos c72] at H
              have c72b0 : (t285 == 0) = true := beq_iff_eq.mpr c72
              have c72b1 : (t285 != 0) = false := bne_eq_false_iff_eq.mpr c72
              clear c72
              have HC73 := Aside0.mk H
              clear H
              go_upto_block 0 with (fail)
              go_cut [] (fun wc => ∃ (kq : Nat), Aside0 (mootlaw4_LedgerTells.j4 kq l0 a2 t290 t291 t292 t293 t294 t295 a3 a4 = some r) ∧ Aside0 (kq ≤ kj16) ∧ Aside0 (Kd.R (Kd.int .i64) 3 wc w.heap.size (fun k_ => k_ ≠ gb282 ∧ k_ ≠ gb283) v297 t295) ∧ Aside0 (wc.heap[gb281]? = some (.cells #[.int .i64 a1_0, .int .i64 a1_1, .int .i64 a1_2, .int .i64 a1_3] 35 (0, 0))) ∧ Aside0 (wc.heap[gb282]? = some (.cells #[.int .i64 a3] 3 (0, 0))) ∧ Aside0 (wc.heap[gb283]? = some (.cells #[.int .i64 a4] 3 (0, 0))) ∧ Aside0 (Below w.heap.size w wc))
              case first => as_aux_lemma =>
                have H := HC73.out
                clear HC73
                have HC74 := Aside0.mk H
                clear H
                go_upto_region 18 with (fail)
                go_cut [186] (fun v186 wc => ∃ (kq : Nat) (x186_73 : Bool), v186 = .bool x186_73 ∧ Aside0 (mootlaw4_LedgerTells.j1 kq l0 a2 a5 t290 t291 t292 t293 t294 t295 t299 t300 x186_73 a3 a4 = some r) ∧ Aside0 (kq ≤ kj16) ∧ Aside0 (Kd.R (Kd.int .i64) 3 wc w.heap.size (fun k_ => k_ ≠ gb282 ∧ k_ ≠ gb283) v297 t295) ∧ Aside0 (Kd.R k35 35 wc w.heap.size (fun k_ => k_ ≠ gb281) v301 t299) ∧ Aside0 (wc.heap[gb281]? = some (.cells #[.int .i64 a1_0, .int .i64 a1_1, .int .i64 a1_2, .int .i64 a1_3] 35 (0, 0))) ∧ Aside0 (wc.heap[gb282]? = some (.cells #[.int .i64 a3] 3 (0, 0))) ∧ Aside0 (wc.heap[gb283]? = some (.cells #[.int .i64 a4] 3 (0, 0))) ∧ Aside0 (Below w.heap.size w wc))
                case first =>
                  have H := HC74.out
                  clear HC74
                  by_cases c75 : a5 < 0
                  · rw [if_pos c75] at H
                    have c75b0 : decide (a5 < 0) = true := decide_eq_true c75
                    clear c75
                    (first | rw [c75b0] | (simp only [i64_w, i32_w]; rw [c75b0]) | skip)
                    have H' := Aside0.mk H
                    clear H
                    go_wp2
                    go_meet
                    case rel => exact ⟨_, (true), (by first | rfl | (simp; done) | (simp [*]; done)), H', ⟨by have := HJ16.out; first | omega | exact Nat.le_refl _⟩, ⟨by (with_reducible repeat (first | apply qk | apply qj | apply ql)); exact HO_21.out⟩, ⟨by (with_reducible repeat (first | apply qk | apply qj | apply ql)); exact HO_23.out⟩, ⟨by (with_reducible repeat (first | refine qa ?_ _ | refine qb ?_ | refine qc ?_ _)); exact BK281.out⟩, ⟨by (with_reducible repeat (first | refine qa ?_ _ | refine qb ?_ | refine qc ?_ _)); exact BK282.out⟩, ⟨by (with_reducible repeat (first | refine qa ?_ _ | refine qb ?_ | refine qc ?_ _)); exact BK283.out⟩, ⟨by repeat (first | (with_reducible first | exact HB.out | apply qg | apply qe | apply qf | refine qd ?_ GE281.out | refine qd ?_ GE282.out | refine qd ?_ GE283.out) | exact HB.out)⟩⟩
                  · rw [if_neg c75] at H
                    have c75b0 : decide (a5 < 0) = false := decide_eq_false c75
                    clear c75
                    (first | rw [c75b0] | (simp only [i64_w, i32_w]; rw [c75b0]) | skip)
                    have H' := Aside0.mk H
                    clear H
                    go_wp2
                    go_meet
                    case rel => exact ⟨_, (decide (a5 ≥ (l0.length : Int))), (by first | rfl | (simp; done) | (simp [*]; done)), H', ⟨by have := HJ16.out; first | omega | exact Nat.le_refl _⟩, ⟨by (with_reducible repeat (first | apply qk | apply qj | apply ql)); exact HO_21.out⟩, ⟨by (with_reducible repeat (first | apply qk | apply qj | apply ql)); exact HO_23.out⟩, ⟨by (with_reducible repeat (first | refine qa ?_ _ | refine qb ?_ | refine qc ?_ _)); exact BK281.out⟩, ⟨by (with_reducible repeat (first | refine qa ?_ _ | refine qb ?_ | refine qc ?_ _)); exact BK282.out⟩, ⟨by (with_reducible repeat (first | refine qa ?_ _ | refine qb ?_ | refine qc ?_ _)); exact BK283.out⟩, ⟨by repeat (first | (with_reducible first | exact HB.out | apply qg | apply qe | apply qf | refine qd ?_ GE281.out | refine qd ?_ GE282.out | refine qd ?_ GE283.out) | exact HB.out)⟩⟩
                case rest => as_aux_lemma =>
                  clear HC74
                  try clear c1
                  try clear c2
                  try clear p2
                  try clear c3
                  try clear c4
                  try clear c5
                  try clear p6
                  try clear c7
                  try clear c8
                  try clear c12
                  try clear c14
                  try clear c16
                  try clear c18
                  try clear c19
                  try clear c21
                  try clear c23
                  try clear c24
                  try clear c27
                  try clear c29
                  try clear c30
                  try clear c31
                  try clear c44
                  try clear c44b0
                  try clear c44b1
                  try clear c46
                  try clear c46b0
                  try clear c46b1
                  try clear c47
                  try clear c47b0
                  try clear c47b1
                  try clear c49
                  try clear c58
                  try clear c58b0
                  try clear c58b1
                  try clear p64
                  try clear c71
                  try clear c72
                  try clear c72b0
                  try clear c72b1
                  try clear c75
                  try clear c75b0
                  try clear hcz25_0
                  try clear hcz25_1
                  try clear hcz25_2
                  try clear hcz25_3
                  try clear hcz28_0
                  try clear hcz30_0
                  try clear hcz31_0
                  try clear hcz34_0
                  try clear hfz25_0
                  try clear hfz25_1
                  try clear hfz25_2
                  try clear hfz25_3
                  try clear hfz28_0
                  try clear hfz30_0
                  try clear hfz31_0
                  try clear hfz34_0
                  try clear p2
                  obtain ⟨kq, x186_73, rfl, HA, HJ73, HO_21, HO_23, BK281, BK282, BK283, HB⟩ := hcut
                  cases kq with
                  | zero => exact absurd HA.out (by simp [mootlaw4_LedgerTells.j1])
                  | succ kj73 =>
                    have H := HA.out
                    clear HA
                    simp only [mootlaw4_LedgerTells.j1] at H
                    by_cases c76 : x186_73 = true
                    · as_aux_lemma =>
                        subst c76
                        have H1 : (if t300 = 4 then (mootlaw4_LedgerTells.j2 kj73 l0 a2 t290 t291 t292 t293 t294 t295 (decide ((t299.length : Int) > 0)) a3 a4) else (mootlaw4_LedgerTells.j2 kj73 l0 a2 t290 t291 t292 t293 t294 t295 true a3 a4)) = some r := by rw [if_pos rfl] at H; exact H
                        clear H
                        have H := H1
                        clear H1
                        have HC77 := Aside0.mk H
                        clear H
                        go_upto_region 19 with (fail)
                        go_cut [201] (fun v201 wc => ∃ (kq : Nat) (x201_76 : Bool), v201 = .bool x201_76 ∧ Aside0 (mootlaw4_LedgerTells.j2 kq l0 a2 t290 t291 t292 t293 t294 t295 x201_76 a3 a4 = some r) ∧ Aside0 (kq ≤ kj73) ∧ Aside0 (Kd.R (Kd.int .i64) 3 wc w.heap.size (fun k_ => k_ ≠ gb282 ∧ k_ ≠ gb283) v297 t295) ∧ Aside0 (wc.heap[gb281]? = some (.cells #[.int .i64 a1_0, .int .i64 a1_1, .int .i64 a1_2, .int .i64 a1_3] 35 (0, 0))) ∧ Aside0 (wc.heap[gb282]? = some (.cells #[.int .i64 a3] 3 (0, 0))) ∧ Aside0 (wc.heap[gb283]? = some (.cells #[.int .i64 a4] 3 (0, 0))) ∧ Aside0 (Below w.heap.size w wc))
                        case first =>
                          have H := HC77.out
                          clear HC77
                          by_cases c78 : t300 = 4
                          · rw [if_pos c78] at H
                            have c78b0 : (t300 == 4) = true := beq_iff_eq.mpr c78
                            have c78b1 : (t300 != 4) = false := bne_eq_false_iff_eq.mpr c78
                            clear c78
                            (first | rw [c78b0] | (simp only [i64_w, i32_w]; rw [c78b0]) | skip)
                            have H' := Aside0.mk H
                            clear H
                            obtain ⟨Ao79, co79, eo79⟩ := Kd.R_slice HO_23.out
                            subst eo79
                            go_wp2
                            go_meet
                            case rel => exact ⟨_, (decide ((t299.length : Int) > 0)), (by first | rfl | (simp; done) | (simp [*]; done)), H', ⟨by have := HJ16.out; have := HJ73.out; first | omega | exact Nat.le_refl _⟩, ⟨by (with_reducible repeat (first | apply qk | apply qj | apply ql)); exact HO_21.out⟩, ⟨by (with_reducible repeat (first | refine qa ?_ _ | refine qb ?_ | refine qc ?_ _)); exact BK281.out⟩, ⟨by (with_reducible repeat (first | refine qa ?_ _ | refine qb ?_ | refine qc ?_ _)); exact BK282.out⟩, ⟨by (with_reducible repeat (first | refine qa ?_ _ | refine qb ?_ | refine qc ?_ _)); exact BK283.out⟩, ⟨by repeat (first | (with_reducible first | exact HB.out | apply qg | apply qe | apply qf | refine qd ?_ GE281.out | refine qd ?_ GE282.out | refine qd ?_ GE283.out) | exact HB.out)⟩⟩
                          · rw [if_neg c78] at H
                            have c78b0 : (t300 == 4) = false := beq_eq_false_iff_ne.mpr c78
                            have c78b1 : (t300 != 4) = true := bne_iff_ne.mpr c78
                            (first | rw [c78b0] | (simp only [i64_w, i32_w]; rw [c78b0]) | skip)
                            have H' := Aside0.mk H
                            clear H
                            go_wp2
                            go_meet
                            case rel => exact ⟨_, (true), (by first | rfl | (simp; done) | (simp [*]; done)), H', ⟨by have := HJ16.out; have := HJ73.out; first | omega | exact Nat.le_refl _⟩, ⟨by (with_reducible repeat (first | apply qk | apply qj | apply ql)); exact HO_21.out⟩, ⟨by (with_reducible repeat (first | refine qa ?_ _ | refine qb ?_ | refine qc ?_ _)); exact BK281.out⟩, ⟨by (with_reducible repeat (first | refine qa ?_ _ | refine qb ?_ | refine qc ?_ _)); exact BK282.out⟩, ⟨by (with_reducible repeat (first | refine qa ?_ _ | refine qb ?_ | refine qc ?_ _)); exact BK283.out⟩, ⟨by repeat (first | (with_reducible first | exact HB.out | apply qg | apply qe | apply qf | refine qd ?_ GE281.out | refine qd ?_ GE282.out | refine qd ?_ GE283.out) | exact HB.out)⟩⟩
                        case rest => as_aux_lemma =>
                          clear HC77
                          try clear c1
                          try clear c2
                          try clear p2
                          try clear c3
                          try clear c4
                          try clear c5
                          try clear p6
                          try clear c7
                          try clear c8
                          try clear c12
                          try clear c14
                          try clear c16
                          try clear c18
                          try clear c19
                          try clear c21
                          try clear c23
                          try clear c24
                          try clear c27
                          try clear c29
                          try clear c30
                          try clear c31
                          try clear c44
                          try clear c44b0
                          try clear c44b1
                          try clear c46
                          try clear c46b0
                          try clear c46b1
                          try clear c47
                          try clear c47b0
                          try clear c47b1
                          try clear c49
                          try clear c58
                          try clear c58b0
                          try clear c58b1
                          try clear p64
                          try clear c71
                          try clear c72
                          try clear c72b0
                          try clear c72b1
                          try clear c75
                          try clear c75b0
                          try clear c76
                          try clear c78
                          try clear c78b0
                          try clear c78b1
                          try clear hcz25_0
                          try clear hcz25_1
                          try clear hcz25_2
                          try clear hcz25_3
                          try clear hcz28_0
                          try clear hcz30_0
                          try clear hcz31_0
                          try clear hcz34_0
                          try clear hfz25_0
                          try clear hfz25_1
                          try clear hfz25_2
                          try clear hfz25_3
                          try clear hfz28_0
                          try clear hfz30_0
                          try clear hfz31_0
                          try clear hfz34_0
                          try clear p2
                          try clear p6
                          try clear p64
                          obtain ⟨kq, x201_76, rfl, HA, HJ76, HO_21, BK281, BK282, BK283, HB⟩ := hcut
                          cases kq with
                          | zero => exact absurd HA.out (by simp [mootlaw4_LedgerTells.j2])
                          | succ kj76 =>
                            have H := HA.out
                            clear HA
                            simp only [mootlaw4_LedgerTells.j2] at H
                            by_cases c80 : x201_76 = true
                            · subst c80
                              have H1 : (some false) = some r := by rw [if_pos rfl] at H; exact H
                              clear H
                              have H := H1
                              clear H1
                              obtain rfl := Option.some.inj H
                              go_wp2
                              go_ret
                              exact ⟨by first | rfl | (simp [errW_none, errW_some] <;> rfl) | (simp [*, errW_none, errW_some] <;> rfl), by repeat (first | (with_reducible first | exact HB.out | apply qg | apply qe | apply qf | refine qd ?_ GE281.out | refine qd ?_ GE282.out | refine qd ?_ GE283.out) | exact HB.out)⟩
                            · replace c80 := Bool.eq_false_iff.mpr c80
                              subst c80
                              have H1 : (mootlaw4_LedgerTells.j4 kj76 l0 a2 t290 t291 t292 t293 t294 t295 a3 a4) = some r := by rw [if_neg (show ¬ (false = true) by decide)] at H; exact H
                              clear H
                              have H := H1
                              clear H1
                              have H' := Aside0.mk H
                              clear H
                              go_wp2
                              go_meet
                              case rel => exact ⟨_, H', ⟨by have := HJ16.out; have := HJ73.out; have := HJ76.out; first | omega | exact Nat.le_refl _⟩, ⟨by (with_reducible repeat (first | apply qk | apply qj | apply ql)); exact HO_21.out⟩, ⟨by (with_reducible repeat (first | refine qa ?_ _ | refine qb ?_ | refine qc ?_ _)); exact BK281.out⟩, ⟨by (with_reducible repeat (first | refine qa ?_ _ | refine qb ?_ | refine qc ?_ _)); exact BK282.out⟩, ⟨by (with_reducible repeat (first | refine qa ?_ _ | refine qb ?_ | refine qc ?_ _)); exact BK283.out⟩, ⟨by repeat (first | (with_reducible first | exact HB.out | apply qg | apply qe | apply qf | refine qd ?_ GE281.out | refine qd ?_ GE282.out | refine qd ?_ GE283.out) | exact HB.out)⟩⟩
                    · replace c76 := Bool.eq_false_iff.mpr c76
                      subst c76
                      have H1 : ((ledger_Entry_18.f l0).bind fun t315 => (if 0 ≤ a5 then (if a5 < (l0.length : Int) then ((some (([(⟨a4, (rd_T35 l0 a5).f2, (rd_T35 l0 a5).f1, (rd_T35 l0 a5).f3⟩ : S35)] : List (S35)) : List (S35))).bind fun y321 => (if t315.length + y321.length < 4398046511104 then ((some (t315 ++ y321 : List (S35))).bind fun y324 => ((mootlaw4_ledgerFault.f kj73 y324).bind fun t327 => (if t300 = t327 then (if t327 = 0 then ((ledger_Entry_24.f kj73 t299 y324).bind fun t328 => (if t328 = true then (mootlaw4_LedgerTells.j3 kj73 l0 a2 t290 t291 t292 t293 t294 t295 false a3 a4) else (mootlaw4_LedgerTells.j3 kj73 l0 a2 t290 t291 t292 t293 t294 t295 true a3 a4))) else (mootlaw4_LedgerTells.j3 kj73 l0 a2 t290 t291 t292 t293 t294 t295 (decide ((t299.length : Int) > 0)) a3 a4)) else (mootlaw4_LedgerTells.j3 kj73 l0 a2 t290 t291 t292 t293 t294 t295 true a3 a4)))) else (none))) else (none)) else (none))) = some r := by rw [if_neg (show ¬ (false = true) by decide)] at H; exact H
                      clear H
                      have H := H1
                      clear H1
                      replace H := Option.bind_eq_some_iff.mp H
                      obtain ⟨t315, A810, H⟩ := H
                      replace H : (if 0 ≤ a5 then (if a5 < (l0.length : Int) then ((some (([(⟨a4, (rd_T35 l0 a5).f2, (rd_T35 l0 a5).f1, (rd_T35 l0 a5).f3⟩ : S35)] : List (S35)) : List (S35))).bind fun y321 => (if t315.length + y321.length < 4398046511104 then ((some (t315 ++ y321 : List (S35))).bind fun y324 => ((mootlaw4_ledgerFault.f kj73 y324).bind fun t327 => (if t300 = t327 then (if t327 = 0 then ((ledger_Entry_24.f kj73 t299 y324).bind fun t328 => (if t328 = true then (mootlaw4_LedgerTells.j3 kj73 l0 a2 t290 t291 t292 t293 t294 t295 false a3 a4) else (mootlaw4_LedgerTells.j3 kj73 l0 a2 t290 t291 t292 t293 t294 t295 true a3 a4))) else (mootlaw4_LedgerTells.j3 kj73 l0 a2 t290 t291 t292 t293 t294 t295 (decide ((t299.length : Int) > 0)) a3 a4)) else (mootlaw4_LedgerTells.j3 kj73 l0 a2 t290 t291 t292 t293 t294 t295 true a3 a4)))) else (none))) else (none)) else (none)) = some r := H
                      have A81 := Aside0.mk A810
                      clear A810
                      by_cases c82 : 0 ≤ a5
                      · rw [if_pos c82] at H
                        have c82b0 : decide (0 ≤ a5) = true := decide_eq_true c82
                        clear c82
                        by_cases c83 : a5 < (l0.length : Int)
                        · rw [if_pos c83] at H
                          have c83b0 : decide (a5 < (l0.length : Int)) = true := decide_eq_true c83
                          clear c83
                          obtain ⟨y321, hy321⟩ : ∃ y_ : List (S35), y_ = (([(⟨a4, (rd_T35 l0 a5).f2, (rd_T35 l0 a5).f1, (rd_T35 l0 a5).f3⟩ : S35)] : List (S35))) := ⟨_, rfl⟩
                          replace H : (if t315.length + y321.length < 4398046511104 then ((some (t315 ++ y321 : List (S35))).bind fun y324 => ((mootlaw4_ledgerFault.f kj73 y324).bind fun t327 => (if t300 = t327 then (if t327 = 0 then ((ledger_Entry_24.f kj73 t299 y324).bind fun t328 => (if t328 = true then (mootlaw4_LedgerTells.j3 kj73 l0 a2 t290 t291 t292 t293 t294 t295 false a3 a4) else (mootlaw4_LedgerTells.j3 kj73 l0 a2 t290 t291 t292 t293 t294 t295 true a3 a4))) else (mootlaw4_LedgerTells.j3 kj73 l0 a2 t290 t291 t292 t293 t294 t295 (decide ((t299.length : Int) > 0)) a3 a4)) else (mootlaw4_LedgerTells.j3 kj73 l0 a2 t290 t291 t292 t293 t294 t295 true a3 a4)))) else (none)) = some r := by first | (rw [hy321]; with_reducible exact H) | (have H2_ := (Option.bind_some _ _).symm.trans H; rw [hy321]; with_reducible exact H2_) | (have H2_ := (Option.bind_some _ _).symm.trans H; with_reducible exact H2_) | with_reducible exact H | (rw [hy321]; exact H) | exact H
                          have Ny321 := Aside0.mk hy321
                          clear hy321
                          by_cases c84 : t315.length + y321.length < 4398046511104
                          · rw [if_pos c84] at H
                            have LMc84 := Aside0.mk c84
                            clear c84
                            obtain ⟨y324, hy324⟩ : ∃ y_ : List (S35), y_ = (t315 ++ y321) := ⟨_, rfl⟩
                            replace H : ((mootlaw4_ledgerFault.f kj73 y324).bind fun t327 => (if t300 = t327 then (if t327 = 0 then ((ledger_Entry_24.f kj73 t299 y324).bind fun t328 => (if t328 = true then (mootlaw4_LedgerTells.j3 kj73 l0 a2 t290 t291 t292 t293 t294 t295 false a3 a4) else (mootlaw4_LedgerTells.j3 kj73 l0 a2 t290 t291 t292 t293 t294 t295 true a3 a4))) else (mootlaw4_LedgerTells.j3 kj73 l0 a2 t290 t291 t292 t293 t294 t295 (decide ((t299.length : Int) > 0)) a3 a4)) else (mootlaw4_LedgerTells.j3 kj73 l0 a2 t290 t291 t292 t293 t294 t295 true a3 a4))) = some r := by first | (rw [hy324]; with_reducible exact H) | (have H2_ := (Option.bind_some _ _).symm.trans H; rw [hy324]; with_reducible exact H2_) | (have H2_ := (Option.bind_some _ _).symm.trans H; with_reducible exact H2_) | with_reducible exact H | (rw [hy324]; exact H) | exact H
                            have Ny324 := Aside0.mk hy324
                            clear hy324
                            replace H := Option.bind_eq_some_iff.mp H
                            obtain ⟨t327, A850, H⟩ := H
                            replace H : (if t300 = t327 then (if t327 = 0 then ((ledger_Entry_24.f kj73 t299 y324).bind fun t328 => (if t328 = true then (mootlaw4_LedgerTells.j3 kj73 l0 a2 t290 t291 t292 t293 t294 t295 false a3 a4) else (mootlaw4_LedgerTells.j3 kj73 l0 a2 t290 t291 t292 t293 t294 t295 true a3 a4))) else (mootlaw4_LedgerTells.j3 kj73 l0 a2 t290 t291 t292 t293 t294 t295 (decide ((t299.length : Int) > 0)) a3 a4)) else (mootlaw4_LedgerTells.j3 kj73 l0 a2 t290 t291 t292 t293 t294 t295 true a3 a4)) = some r := H
                            have A85 := Aside0.mk A850
                            clear A850
                            have HC86 := Aside0.mk H
                            clear H
                            try go_wp2
                            have n0_ := Aside0.mk (ql HO_21.out)
                            have n1_ := Aside0.mk (ql HO_23.out)
                            have n2_ := Aside0.mk (qb BK281.out)
                            have n3_ := Aside0.mk (qb BK282.out)
                            have n4_ := Aside0.mk (qb BK283.out)
                            have n5_ := Aside0.mk (qf HB.out)
                            clear HO_21
                            clear HO_23
                            clear BK281
                            clear BK282
                            clear BK283
                            clear HB
                            have HO_21 := n0_
                            have HO_23 := n1_
                            have BK281 := n2_
                            have BK282 := n3_
                            have BK283 := n4_
                            have HB := n5_
                            clear n0_ n1_ n2_ n3_ n4_ n5_
                            have p318 : 0 ≤ (a5 : Int) := of_decide_eq_true (by first | (with_reducible assumption) | assumption)
                            have q318 : a5 < (l0.length : Int) := of_decide_eq_true (by first | (with_reducible assumption) | assumption)
                            obtain ⟨ad318, e318, hx318_0, hx318_1, hx318_2, hx318_3⟩ := at_T35 HR0.out a5 p318 q318
                            have hw318_3 := hx318_3
                            have hw318_2 := hx318_2
                            have hw318_1 := hx318_1
                            have hw318_0 := hx318_0
                            cases e318
                            replace hx318_0 := (HB.out.cell (World.block_lt_of_cell? w _ hx318_0)).trans hx318_0
                            replace hx318_1 := (HB.out.cell (World.block_lt_of_cell? w _ hx318_1)).trans hx318_1
                            replace hx318_2 := (HB.out.cell (World.block_lt_of_cell? w _ hx318_2)).trans hx318_2
                            replace hx318_3 := (HB.out.cell (World.block_lt_of_cell? w _ hx318_3)).trans hx318_3
                            replace p318 := eq_true p318
                            replace q318 := eq_true q318
                            have p319 : 0 ≤ (a5 : Int) := of_decide_eq_true (by first | (with_reducible assumption) | assumption)
                            have q319 : a5 < (l0.length : Int) := of_decide_eq_true (by first | (with_reducible assumption) | assumption)
                            obtain ⟨ad319, e319, hx319_0, hx319_1, hx319_2, hx319_3⟩ := at_T35 HR0.out a5 p319 q319
                            have hw319_3 := hx319_3
                            have hw319_2 := hx319_2
                            have hw319_1 := hx319_1
                            have hw319_0 := hx319_0
                            obtain rfl : ad318 = ad319 := (by injection e319)
                            replace hx319_0 := (HB.out.cell (World.block_lt_of_cell? w _ hx319_0)).trans hx319_0
                            replace hx319_1 := (HB.out.cell (World.block_lt_of_cell? w _ hx319_1)).trans hx319_1
                            replace hx319_2 := (HB.out.cell (World.block_lt_of_cell? w _ hx319_2)).trans hx319_2
                            replace hx319_3 := (HB.out.cell (World.block_lt_of_cell? w _ hx319_3)).trans hx319_3
                            replace p319 := eq_true p319
                            replace q319 := eq_true q319
                            have p320 : 0 ≤ (a5 : Int) := of_decide_eq_true (by first | (with_reducible assumption) | assumption)
                            have q320 : a5 < (l0.length : Int) := of_decide_eq_true (by first | (with_reducible assumption) | assumption)
                            obtain ⟨ad320, e320, hx320_0, hx320_1, hx320_2, hx320_3⟩ := at_T35 HR0.out a5 p320 q320
                            have hw320_3 := hx320_3
                            have hw320_2 := hx320_2
                            have hw320_1 := hx320_1
                            have hw320_0 := hx320_0
                            obtain rfl : ad318 = ad320 := (by injection e320)
                            replace hx320_0 := (HB.out.cell (World.block_lt_of_cell? w _ hx320_0)).trans hx320_0
                            replace hx320_1 := (HB.out.cell (World.block_lt_of_cell? w _ hx320_1)).trans hx320_1
                            replace hx320_2 := (HB.out.cell (World.block_lt_of_cell? w _ hx320_2)).trans hx320_2
                            replace hx320_3 := (HB.out.cell (World.block_lt_of_cell? w _ hx320_3)).trans hx320_3
                            replace p320 := eq_true p320
                            replace q320 := eq_true q320
                            refine start_ (n := 22) (S := fun w' => w'.cell? ⟨gb283, 0, none⟩ = some (.int .i64 a4) ∧ w'.cell? (ad318.add ((a5).toNat * 4)) = some (.int .i64 ((rd_T35 l0 a5).f0)) ∧ w'.cell? ⟨(ad318.add ((a5).toNat * 4)).block, (ad318.add ((a5).toNat * 4)).off + 1, none⟩ = some (.int .i64 ((rd_T35 l0 a5).f1)) ∧ w'.cell? ⟨(ad318.add ((a5).toNat * 4)).block, (ad318.add ((a5).toNat * 4)).off + 2, none⟩ = some (.int .i64 ((rd_T35 l0 a5).f2)) ∧ w'.cell? ⟨(ad318.add ((a5).toNat * 4)).block, (ad318.add ((a5).toNat * 4)).off + 3, none⟩ = some (.int .i64 ((rd_T35 l0 a5).f3)) ∧ w'.cell? (ad318.add ((a5).toNat * 4)) = some (.int .i64 ((rd_T35 l0 a5).f0)) ∧ w'.cell? ⟨(ad318.add ((a5).toNat * 4)).block, (ad318.add ((a5).toNat * 4)).off + 1, none⟩ = some (.int .i64 ((rd_T35 l0 a5).f1)) ∧ w'.cell? ⟨(ad318.add ((a5).toNat * 4)).block, (ad318.add ((a5).toNat * 4)).off + 2, none⟩ = some (.int .i64 ((rd_T35 l0 a5).f2)) ∧ w'.cell? ⟨(ad318.add ((a5).toNat * 4)).block, (ad318.add ((a5).toNat * 4)).off + 3, none⟩ = some (.int .i64 ((rd_T35 l0 a5).f3)) ∧ w'.cell? (ad318.add ((a5).toNat * 4)) = some (.int .i64 ((rd_T35 l0 a5).f0)) ∧ w'.cell? ⟨(ad318.add ((a5).toNat * 4)).block, (ad318.add ((a5).toNat * 4)).off + 1, none⟩ = some (.int .i64 ((rd_T35 l0 a5).f1)) ∧ w'.cell? ⟨(ad318.add ((a5).toNat * 4)).block, (ad318.add ((a5).toNat * 4)).off + 2, none⟩ = some (.int .i64 ((rd_T35 l0 a5).f2)) ∧ w'.cell? ⟨(ad318.add ((a5).toNat * 4)).block, (ad318.add ((a5).toNat * 4)).off + 3, none⟩ = some (.int .i64 ((rd_T35 l0 a5).f3))) (ds := []) #[false, false, false, false, false, false, false, false, false, false, false, false, false, false, false, false, false, false, false, false, false, false] (by kernel_rfl) rfl rfl ⟨(qi BK283.out 0).trans rfl, ((HB.out.cell (World.block_lt_of_cell? w _ hw318_0)).trans hw318_0), ((HB.out.cell (World.block_lt_of_cell? w _ hw318_1)).trans hw318_1), ((HB.out.cell (World.block_lt_of_cell? w _ hw318_2)).trans hw318_2), ((HB.out.cell (World.block_lt_of_cell? w _ hw318_3)).trans hw318_3), ((HB.out.cell (World.block_lt_of_cell? w _ hw319_0)).trans hw319_0), ((HB.out.cell (World.block_lt_of_cell? w _ hw319_1)).trans hw319_1), ((HB.out.cell (World.block_lt_of_cell? w _ hw319_2)).trans hw319_2), ((HB.out.cell (World.block_lt_of_cell? w _ hw319_3)).trans hw319_3), ((HB.out.cell (World.block_lt_of_cell? w _ hw320_0)).trans hw320_0), ((HB.out.cell (World.block_lt_of_cell? w _ hw320_1)).trans hw320_1), ((HB.out.cell (World.block_lt_of_cell? w _ hw320_2)).trans hw320_2), ((HB.out.cell (World.block_lt_of_cell? w _ hw320_3)).trans hw320_3)⟩ (fun hHeld => ?_); refine with_tabW mootlaw4_LedgerTells.tab14 mootlaw4_LedgerTells.bits14 (fun HT_ HW_ => ?_)
                            generalize wc.drew = w87 at HO_21 HO_23 BK281 BK282 BK283 HB hx318_0 hx318_1 hx318_2 hx318_3 hx319_0 hx319_1 hx319_2 hx319_3 hx320_0 hx320_1 hx320_2 hx320_3 hHeld ⊢
                            refine pure_ (i := 0) (N := some 141) (v := ?_) (a' := ?_) #[true, false, false, false, false, false, false, false, false, false, false, false, false, false, false, false, false, false, false, false, false, false] rfl rfl (any_of HT_.out (by kernel_rfl)) (fun _ _ _ h => h) (Or.inl ⟨by rfl, ?_⟩) ?_ ?_
                            rotate_left
                            · intro w'
                              go_simp
                              with_reducible rfl
                            rotate_left
                            · simp only [Act.put, List.setIfInBounds_toArray, List.set_cons_zero, List.set_cons_succ, i64_w, i32_w]
                              rfl
                            refine pure_ (i := 3) (N := some 144) (v := ?_) (a' := ?_) #[true, false, false, true, false, false, false, false, false, false, false, false, false, false, false, false, false, false, false, false, false, false] rfl rfl (any_of HT_.out (by kernel_rfl)) (fun _ _ _ h => h) (Or.inl ⟨by rfl, ?_⟩) ?_ ?_
                            rotate_left
                            · intro w'
                              go_simp
                              with_reducible rfl
                            rotate_left
                            · simp only [Act.put, List.setIfInBounds_toArray, List.set_cons_zero, List.set_cons_succ, i64_w, i32_w]
                              rfl
                            refine pure_ (i := 4) (N := some 145) (v := ?_) (a' := ?_) #[true, false, false, true, true, false, false, false, false, false, false, false, false, false, false, false, false, false, false, false, false, false] rfl rfl (any_of HT_.out (by kernel_rfl)) (fun _ _ _ h => h) (Or.inl ⟨by rfl, ?_⟩) ?_ ?_
                            rotate_left
                            · intro w'
                              go_simp
                              with_reducible rfl
                            rotate_left
                            · simp only [Act.put, List.setIfInBounds_toArray, List.set_cons_zero, List.set_cons_succ, i64_w, i32_w]
                              rfl
                            refine pure_ (i := 5) (N := some 146) (v := ?_) (a' := ?_) #[true, false, false, true, true, true, false, false, false, false, false, false, false, false, false, false, false, false, false, false, false, false] rfl rfl (any_of HT_.out (by kernel_rfl)) (fun _ _ _ h => h) (Or.inl ⟨by rfl, ?_⟩) ?_ ?_
                            rotate_left
                            · intro w'
                              go_simp
                              with_reducible rfl
                            rotate_left
                            · simp only [Act.put, List.setIfInBounds_toArray, List.set_cons_zero, List.set_cons_succ, i64_w, i32_w]
                              rfl
                            refine pure_ (i := 6) (N := some 147) (v := ?_) (a' := ?_) #[true, false, false, true, true, true, true, false, false, false, false, false, false, false, false, false, false, false, false, false, false, false] rfl rfl (any_of HT_.out (by kernel_rfl)) (fun _ _ _ h => h) (Or.inl ⟨by rfl, ?_⟩) ?_ ?_
                            rotate_left
                            · intro w'
                              go_simp
                              with_reducible rfl
                            rotate_left
                            · simp only [Act.put, List.setIfInBounds_toArray, List.set_cons_zero, List.set_cons_succ, i64_w, i32_w]
                              rfl
                            refine pure_ (i := 8) (N := some 149) (v := ?_) (a' := ?_) #[true, false, false, true, true, true, true, false, true, false, false, false, false, false, false, false, false, false, false, false, false, false] rfl rfl (any_of HT_.out (by kernel_rfl)) (fun _ _ _ h => h) (Or.inl ⟨by rfl, ?_⟩) ?_ ?_
                            rotate_left
                            · intro w'
                              go_simp
                              with_reducible rfl
                            rotate_left
                            · simp only [Act.put, List.setIfInBounds_toArray, List.set_cons_zero, List.set_cons_succ, i64_w, i32_w]
                              rfl
                            refine pure_ (i := 9) (N := some 150) (v := ?_) (a' := ?_) #[true, false, false, true, true, true, true, false, true, true, false, false, false, false, false, false, false, false, false, false, false, false] rfl rfl (any_of HT_.out (by kernel_rfl)) (fun _ _ _ h => h) (Or.inl ⟨by rfl, ?_⟩) ?_ ?_
                            rotate_left
                            · intro w'
                              go_simp
                              with_reducible rfl
                            rotate_left
                            · simp only [Act.put, List.setIfInBounds_toArray, List.set_cons_zero, List.set_cons_succ, i64_w, i32_w]
                              rfl
                            refine pure_ (i := 10) (N := some 151) (v := ?_) (a' := ?_) #[true, false, false, true, true, true, true, false, true, true, true, false, false, false, false, false, false, false, false, false, false, false] rfl rfl (any_of HT_.out (by kernel_rfl)) (fun _ _ _ h => h) (Or.inl ⟨by rfl, ?_⟩) ?_ ?_
                            rotate_left
                            · intro w'
                              go_simp
                              with_reducible rfl
                            rotate_left
                            · simp only [Act.put, List.setIfInBounds_toArray, List.set_cons_zero, List.set_cons_succ, i64_w, i32_w]
                              rfl
                            refine pure_ (i := 11) (N := some 152) (v := ?_) (a' := ?_) #[true, false, false, true, true, true, true, false, true, true, true, true, false, false, false, false, false, false, false, false, false, false] rfl rfl (any_of HT_.out (by kernel_rfl)) (fun _ _ _ h => h) (Or.inl ⟨by rfl, ?_⟩) ?_ ?_
                            rotate_left
                            · intro w'
                              go_simp
                              with_reducible rfl
                            rotate_left
                            · simp only [Act.put, List.setIfInBounds_toArray, List.set_cons_zero, List.set_cons_succ, i64_w, i32_w]
                              rfl
                            refine pure_ (i := 13) (N := some 154) (v := ?_) (a' := ?_) #[true, false, false, true, true, true, true, false, true, true, true, true, false, true, false, false, false, false, false, false, false, false] rfl rfl (any_of HT_.out (by kernel_rfl)) (fun _ _ _ h => h) (Or.inl ⟨by rfl, ?_⟩) ?_ ?_
                            rotate_left
                            · intro w'
                              go_simp
                              with_reducible rfl
                            rotate_left
                            · simp only [Act.put, List.setIfInBounds_toArray, List.set_cons_zero, List.set_cons_succ, i64_w, i32_w]
                              rfl
                            refine pure_ (i := 14) (N := some 155) (v := ?_) (a' := ?_) #[true, false, false, true, true, true, true, false, true, true, true, true, false, true, true, false, false, false, false, false, false, false] rfl rfl (any_of HT_.out (by kernel_rfl)) (fun _ _ _ h => h) (Or.inl ⟨by rfl, ?_⟩) ?_ ?_
                            rotate_left
                            · intro w'
                              go_simp
                              with_reducible rfl
                            rotate_left
                            · simp only [Act.put, List.setIfInBounds_toArray, List.set_cons_zero, List.set_cons_succ, i64_w, i32_w]
                              rfl
                            refine pure_ (i := 15) (N := some 156) (v := ?_) (a' := ?_) #[true, false, false, true, true, true, true, false, true, true, true, true, false, true, true, true, false, false, false, false, false, false] rfl rfl (any_of HT_.out (by kernel_rfl)) (fun _ _ _ h => h) (Or.inl ⟨by rfl, ?_⟩) ?_ ?_
                            rotate_left
                            · intro w'
                              go_simp
                              with_reducible rfl
                            rotate_left
                            · simp only [Act.put, List.setIfInBounds_toArray, List.set_cons_zero, List.set_cons_succ, i64_w, i32_w]
                              rfl
                            refine pure_ (i := 16) (N := some 157) (v := ?_) (a' := ?_) #[true, false, false, true, true, true, true, false, true, true, true, true, false, true, true, true, true, false, false, false, false, false] rfl rfl (any_of HT_.out (by kernel_rfl)) (fun _ _ _ h => h) (Or.inl ⟨by rfl, ?_⟩) ?_ ?_
                            rotate_left
                            · intro w'
                              go_simp
                              with_reducible rfl
                            rotate_left
                            · simp only [Act.put, List.setIfInBounds_toArray, List.set_cons_zero, List.set_cons_succ, i64_w, i32_w]
                              rfl
                            refine take_ (i := 2) (N := some 143) (v := ?_) (a' := ?_) #[true, false, true, true, true, true, true, false, true, true, true, true, false, true, true, true, true, false, false, false, false, false] rfl rfl (take_ofW HT_.out HW_.out (by kernel_rfl)) (fun _ _ _ h => h) (Or.inl ⟨by rfl, ?_⟩) hHeld ?_ ?_
                            rotate_left
                            · rintro w' ⟨s0, s1, s2, s3, s4, s5, s6, s7, s8, s9, s10, s11, s12⟩
                              go_simp
                              with_reducible rfl
                            rotate_left
                            · simp only [Act.put, List.setIfInBounds_toArray, List.set_cons_zero, List.set_cons_succ, i64_w, i32_w]
                              rfl
                            refine take_ (i := 7) (N := some 148) (v := ?_) (a' := ?_) #[true, false, true, true, true, true, true, true, true, true, true, true, false, true, true, true, true, false, false, false, false, false] rfl rfl (take_ofW HT_.out HW_.out (by kernel_rfl)) (fun _ _ _ h => h) (Or.inl ⟨by rfl, ?_⟩) hHeld ?_ ?_
                            rotate_left
                            · rintro w' ⟨s0, s1, s2, s3, s4, s5, s6, s7, s8, s9, s10, s11, s12⟩
                              go_simp
                              with_reducible rfl
                            rotate_left
                            · simp only [Act.put, List.setIfInBounds_toArray, List.set_cons_zero, List.set_cons_succ, i64_w, i32_w]
                              rfl
                            refine take_ (i := 12) (N := some 153) (v := ?_) (a' := ?_) #[true, false, true, true, true, true, true, true, true, true, true, true, true, true, true, true, true, false, false, false, false, false] rfl rfl (take_ofW HT_.out HW_.out (by kernel_rfl)) (fun _ _ _ h => h) (Or.inl ⟨by rfl, ?_⟩) hHeld ?_ ?_
                            rotate_left
                            · rintro w' ⟨s0, s1, s2, s3, s4, s5, s6, s7, s8, s9, s10, s11, s12⟩
                              go_simp
                              with_reducible rfl
                            rotate_left
                            · simp only [Act.put, List.setIfInBounds_toArray, List.set_cons_zero, List.set_cons_succ, i64_w, i32_w]
                              rfl
                            refine take_ (i := 17) (N := some 158) (v := ?_) (a' := ?_) #[true, false, true, true, true, true, true, true, true, true, true, true, true, true, true, true, true, true, false, false, false, false] rfl rfl (take_ofW HT_.out HW_.out (by kernel_rfl)) (fun _ _ _ h => h) (Or.inl ⟨by rfl, ?_⟩) hHeld ?_ ?_
                            rotate_left
                            · rintro w' ⟨s0, s1, s2, s3, s4, s5, s6, s7, s8, s9, s10, s11, s12⟩
                              go_simp
                              with_reducible rfl
                            rotate_left
                            · simp only [Act.put, List.setIfInBounds_toArray, List.set_cons_zero, List.set_cons_succ, i64_w, i32_w]
                              rfl
                            refine pure_ (i := 18) (N := some 159) (v := ?_) (a' := ?_) #[true, false, true, true, true, true, true, true, true, true, true, true, true, true, true, true, true, true, true, false, false, false] rfl rfl (any_of HT_.out (by kernel_rfl)) (fun _ _ _ h => h) (Or.inl ⟨by rfl, ?_⟩) ?_ ?_
                            rotate_left
                            · intro w'
                              go_simp
                              with_reducible rfl
                            rotate_left
                            · simp only [Act.put, List.setIfInBounds_toArray, List.set_cons_zero, List.set_cons_succ, i64_w, i32_w]
                              rfl
                            refine join_ (σ := Value × Value) 2 #[true, true, true, true, true, true, true, true, true, true, true, true, true, true, true, true, true, true, true, true, false, false] (fun s_ => [(142, s_.1), (160, s_.2)]) (fun s_ w' => (w'.cell? ⟨gb283, 0, none⟩ = some (.int .i64 a4) ∧ w'.cell? (ad318.add ((a5).toNat * 4)) = some (.int .i64 ((rd_T35 l0 a5).f0)) ∧ w'.cell? ⟨(ad318.add ((a5).toNat * 4)).block, (ad318.add ((a5).toNat * 4)).off + 1, none⟩ = some (.int .i64 ((rd_T35 l0 a5).f1)) ∧ w'.cell? ⟨(ad318.add ((a5).toNat * 4)).block, (ad318.add ((a5).toNat * 4)).off + 2, none⟩ = some (.int .i64 ((rd_T35 l0 a5).f2)) ∧ w'.cell? ⟨(ad318.add ((a5).toNat * 4)).block, (ad318.add ((a5).toNat * 4)).off + 3, none⟩ = some (.int .i64 ((rd_T35 l0 a5).f3)) ∧ w'.cell? (ad318.add ((a5).toNat * 4)) = some (.int .i64 ((rd_T35 l0 a5).f0)) ∧ w'.cell? ⟨(ad318.add ((a5).toNat * 4)).block, (ad318.add ((a5).toNat * 4)).off + 1, none⟩ = some (.int .i64 ((rd_T35 l0 a5).f1)) ∧ w'.cell? ⟨(ad318.add ((a5).toNat * 4)).block, (ad318.add ((a5).toNat * 4)).off + 2, none⟩ = some (.int .i64 ((rd_T35 l0 a5).f2)) ∧ w'.cell? ⟨(ad318.add ((a5).toNat * 4)).block, (ad318.add ((a5).toNat * 4)).off + 3, none⟩ = some (.int .i64 ((rd_T35 l0 a5).f3)) ∧ w'.cell? (ad318.add ((a5).toNat * 4)) = some (.int .i64 ((rd_T35 l0 a5).f0)) ∧ w'.cell? ⟨(ad318.add ((a5).toNat * 4)).block, (ad318.add ((a5).toNat * 4)).off + 1, none⟩ = some (.int .i64 ((rd_T35 l0 a5).f1)) ∧ w'.cell? ⟨(ad318.add ((a5).toNat * 4)).block, (ad318.add ((a5).toNat * 4)).off + 2, none⟩ = some (.int .i64 ((rd_T35 l0 a5).f2)) ∧ w'.cell? ⟨(ad318.add ((a5).toNat * 4)).block, (ad318.add ((a5).toNat * 4)).off + 3, none⟩ = some (.int .i64 ((rd_T35 l0 a5).f3))) ∧ (Kd.R k35 35 w' w.heap.size (fun k_ => some k_ ≠ (s_.2 : Value).ownBlock ∧ some k_ ≠ (v301 : Value).ownBlock ∧ k_ ≠ gb281) s_.1 t315) ∧ (Kd.R k35 35 w' w.heap.size (fun k_ => some k_ ≠ (s_.1 : Value).ownBlock ∧ some k_ ≠ (v301 : Value).ownBlock ∧ k_ ≠ gb281) s_.2 y321) ∧ (Kd.R (Kd.int .i64) 3 w' w.heap.size (fun k_ => k_ ≠ gb282 ∧ k_ ≠ gb283) v297 t295) ∧ (Kd.R k35 35 w' w.heap.size (fun k_ => some k_ ≠ (s_.1 : Value).ownBlock ∧ some k_ ≠ (s_.2 : Value).ownBlock ∧ k_ ≠ gb281) v301 t299) ∧ (w'.heap[gb281]? = some (.cells #[.int .i64 a1_0, .int .i64 a1_1, .int .i64 a1_2, .int .i64 a1_3] 35 (0, 0))) ∧ (w'.heap[gb282]? = some (.cells #[.int .i64 a3] 3 (0, 0))) ∧ (w'.heap[gb283]? = some (.cells #[.int .i64 a4] 3 (0, 0))) ∧ (Below w.heap.size w w')) ?_ ?_
                            rotate_left
                            · as_aux_lemma =>
                                intro hCont
                                refine two_ (i := 1) (j := 19) (Ni := some 142) (Nj := some 160) #[true, true, true, true, true, true, true, true, true, true, true, true, true, true, true, true, true, true, true, false, false, false] #[true, false, true, true, true, true, true, true, true, true, true, true, true, true, true, true, true, true, true, true, false, false] rfl rfl rfl rfl (two_of HT_.out (by kernel_rfl)) (by decide) (by decide) (fun K hK => ?_) (fun K hK => ?_)
                                · skip
                                  refine goes_ Try.func18 (by kernel_rfl) rfl #[.slice (some ad318) l0.length c0] (by rfl) rfl rfl (by (try simp only [List.map_toArray, List.map_cons, List.map_nil]); first | done | rfl | (simp only [List.length_drop, List.length_take]; rfl)) ?_
                                  with_reducible refine (ledger_Entry_18.calls _ _ l0 t315 _ ?side1 ?side2 A81.out).mono ?_
                                  (case side1 => repeat (first | exact (Kd.C_below HR0.out HB.out) | (with_reducible refine Kd.C_alloc ?_ _) | (with_reducible refine Kd.C_drewN ?_ _) | (with_reducible refine Kd.C_drew ?_)))
                                  (case side2 => exact HC0.out)
                                  rintro e w88 ⟨v316, rfl, ho0, hb⟩
                                  refine ⟨_, rfl, ?_⟩
                                  have n0_ := Aside0.mk (Kd.R_below (by (with_reducible repeat (first | apply qk | apply qj | apply ql)); exact HO_21.out) hb)
                                  have n1_ := Aside0.mk (Kd.R_elder' (by (with_reducible repeat (first | apply qk | apply qj | apply ql)); exact HO_23.out) (Kd.R_base ho0) hb)
                                  have n2_ := Aside0.mk (Kd.R_lower (Kd.R_newB (Kd.R_new' ho0 (Kd.R_lt (by (with_reducible repeat (first | apply qk | apply qj | apply ql)); exact HO_23.out))) (g := gb281) (o := .cells #[.int .i64 a1_0, .int .i64 a1_1, .int .i64 a1_2, .int .i64 a1_3] 35 (0, 0)) (by (with_reducible repeat (first | refine qa ?_ _ | refine qb ?_ | refine qc ?_ _)); exact BK281.out)) (below_size (by repeat (first | (with_reducible first | exact HB.out | apply qg | apply qe | apply qf | refine qd ?_ GE281.out | refine qd ?_ GE282.out | refine qd ?_ GE283.out) | exact HB.out))))
                                  have n3_ := Aside0.mk (blk_below (g := gb281) (o := .cells #[.int .i64 a1_0, .int .i64 a1_1, .int .i64 a1_2, .int .i64 a1_3] 35 (0, 0)) (by (with_reducible repeat (first | refine qa ?_ _ | refine qb ?_ | refine qc ?_ _)); exact BK281.out) hb)
                                  have n4_ := Aside0.mk (blk_below (g := gb282) (o := .cells #[.int .i64 a3] 3 (0, 0)) (by (with_reducible repeat (first | refine qa ?_ _ | refine qb ?_ | refine qc ?_ _)); exact BK282.out) hb)
                                  have n5_ := Aside0.mk (blk_below (g := gb283) (o := .cells #[.int .i64 a4] 3 (0, 0)) (by (with_reducible repeat (first | refine qa ?_ _ | refine qb ?_ | refine qc ?_ _)); exact BK283.out) hb)
                                  have n6_ := Aside0.mk (below_step (by repeat (first | (with_reducible first | exact HB.out | apply qg | apply qe | apply qf | refine qd ?_ GE281.out | refine qd ?_ GE282.out | refine qd ?_ GE283.out) | exact HB.out)) hb)
                                  clear HO_21
                                  clear HO_23
                                  clear BK281
                                  clear BK282
                                  clear BK283
                                  clear HB
                                  have HO_21 := n0_
                                  have HO_23 := n1_
                                  have HO317 := n2_
                                  have BK281 := n3_
                                  have BK282 := n4_
                                  have BK283 := n5_
                                  have HB := n6_
                                  clear n0_ n1_ n2_ n3_ n4_ n5_ n6_
                                  (try clear hb)
                                  (try clear hb2)
                                  (try clear hk)
                                  (try clear hi)
                                  (try clear ho0)
                                  refine hK.out _ _ ⟨(qi BK283.out 0).trans rfl, ((HB.out.cell (World.block_lt_of_cell? w _ hw318_0)).trans hw318_0), ((HB.out.cell (World.block_lt_of_cell? w _ hw318_1)).trans hw318_1), ((HB.out.cell (World.block_lt_of_cell? w _ hw318_2)).trans hw318_2), ((HB.out.cell (World.block_lt_of_cell? w _ hw318_3)).trans hw318_3), ((HB.out.cell (World.block_lt_of_cell? w _ hw319_0)).trans hw319_0), ((HB.out.cell (World.block_lt_of_cell? w _ hw319_1)).trans hw319_1), ((HB.out.cell (World.block_lt_of_cell? w _ hw319_2)).trans hw319_2), ((HB.out.cell (World.block_lt_of_cell? w _ hw319_3)).trans hw319_3), ((HB.out.cell (World.block_lt_of_cell? w _ hw320_0)).trans hw320_0), ((HB.out.cell (World.block_lt_of_cell? w _ hw320_1)).trans hw320_1), ((HB.out.cell (World.block_lt_of_cell? w _ hw320_2)).trans hw320_2), ((HB.out.cell (World.block_lt_of_cell? w _ hw320_3)).trans hw320_3)⟩ (fun hHeld => ?_)
                                  clear hK K
                                  refine norm_ (a' := ?_) ?_ ?_
                                  rotate_left
                                  · show Act.put _ (some 142) _ = _
                                    simp only [Act.put, List.setIfInBounds_toArray, List.set_cons_zero, List.set_cons_succ, i64_w, i32_w]
                                    rfl
                                  refine one_ (i := 19) (N := some 160) #[true, true, true, true, true, true, true, true, true, true, true, true, true, true, true, true, true, true, true, true, false, false] rfl rfl (one_of HT_.out (by kernel_rfl)) (by decide) (fun K hK => ?_)
                                  refine Kd.R_lit_step k35 _ 35 ?hg (N := 160) ?hd (xs := ([(⟨a4, (rd_T35 l0 a5).f2, (rd_T35 l0 a5).f1, (rd_T35 l0 a5).f3⟩ : S35)] : List (S35))) (inner := [.int .i64 a4, .int .i64 ((rd_T35 l0 a5).f2), .int .i64 ((rd_T35 l0 a5).f1), .int .i64 ((rd_T35 l0 a5).f3)]) (ok := fun _ => True) (okp := fun _ => True) ?hr ?hp (fun _ hk => hk) trivial (Below.refl _ _) (Nat.le_refl _) (by simp) ?_; (case hd => rfl); (case hg => rfl); (case hr => first | (go_simp; done) | (go_simp; rfl)); (case hp => exact (Reps.c4 (show Kd.M k35 _ _ _ (⟨a4, (rd_T35 l0 a5).f2, (rd_T35 l0 a5).f1, (rd_T35 l0 a5).f3⟩ : S35) [.int .i64 a4, .int .i64 ((rd_T35 l0 a5).f2), .int .i64 ((rd_T35 l0 a5).f1), .int .i64 ((rd_T35 l0 a5).f3)] from (k35_mkM _ _ _ (⟨a4, (rd_T35 l0 a5).f2, (rd_T35 l0 a5).f1, (rd_T35 l0 a5).f3⟩ : S35) )) (Reps.none _ _)))
                                  intro v322 w89 ho90 hb hg_ hnew_
                                  clear hg_ hnew_
                                  (first | rw [← Ny321.out] at ho90 | (simp only [Int.reduceToNat] at ho90; rw [← Ny321.out] at ho90))
                                  have n0_ := Aside0.mk (Kd.R_below (by (with_reducible repeat (first | apply qk | apply qj | apply ql)); exact HO_21.out) hb)
                                  have n1_ := Aside0.mk (Kd.R_elder' (by (with_reducible repeat (first | apply qk | apply qj | apply ql)); exact HO_23.out) (Kd.R_base ho90) hb)
                                  have n2_ := Aside0.mk (Kd.R_elder' (by (with_reducible repeat (first | apply qk | apply qj | apply ql)); exact HO317.out) (Kd.R_base ho90) hb)
                                  have n3_ := Aside0.mk (Kd.R_lower (Kd.R_newB (Kd.R_new' (Kd.R_new' ho90 (Kd.R_lt (by (with_reducible repeat (first | apply qk | apply qj | apply ql)); exact HO_23.out))) (Kd.R_lt (by (with_reducible repeat (first | apply qk | apply qj | apply ql)); exact HO317.out))) (g := gb281) (o := .cells #[.int .i64 a1_0, .int .i64 a1_1, .int .i64 a1_2, .int .i64 a1_3] 35 (0, 0)) (by (with_reducible repeat (first | refine qa ?_ _ | refine qb ?_ | refine qc ?_ _)); exact BK281.out)) (below_size (by repeat (first | (with_reducible first | exact HB.out | apply qg | apply qe | apply qf | refine qd ?_ GE281.out | refine qd ?_ GE282.out | refine qd ?_ GE283.out) | exact HB.out))))
                                  have n4_ := Aside0.mk (blk_below (g := gb281) (o := .cells #[.int .i64 a1_0, .int .i64 a1_1, .int .i64 a1_2, .int .i64 a1_3] 35 (0, 0)) (by (with_reducible repeat (first | refine qa ?_ _ | refine qb ?_ | refine qc ?_ _)); exact BK281.out) hb)
                                  have n5_ := Aside0.mk (blk_below (g := gb282) (o := .cells #[.int .i64 a3] 3 (0, 0)) (by (with_reducible repeat (first | refine qa ?_ _ | refine qb ?_ | refine qc ?_ _)); exact BK282.out) hb)
                                  have n6_ := Aside0.mk (blk_below (g := gb283) (o := .cells #[.int .i64 a4] 3 (0, 0)) (by (with_reducible repeat (first | refine qa ?_ _ | refine qb ?_ | refine qc ?_ _)); exact BK283.out) hb)
                                  have n7_ := Aside0.mk (below_step (by repeat (first | (with_reducible first | exact HB.out | apply qg | apply qe | apply qf | refine qd ?_ GE281.out | refine qd ?_ GE282.out | refine qd ?_ GE283.out) | exact HB.out)) hb)
                                  clear HO_21
                                  clear HO_23
                                  clear HO317
                                  clear BK281
                                  clear BK282
                                  clear BK283
                                  clear HB
                                  have HO_21 := n0_
                                  have HO_23 := n1_
                                  have HO317 := n2_
                                  have HO323 := n3_
                                  have BK281 := n4_
                                  have BK282 := n5_
                                  have BK283 := n6_
                                  have HB := n7_
                                  clear n0_ n1_ n2_ n3_ n4_ n5_ n6_ n7_
                                  clear hb ho90
                                  refine hK.out _ _ ⟨(qi BK283.out 0).trans rfl, ((HB.out.cell (World.block_lt_of_cell? w _ hw318_0)).trans hw318_0), ((HB.out.cell (World.block_lt_of_cell? w _ hw318_1)).trans hw318_1), ((HB.out.cell (World.block_lt_of_cell? w _ hw318_2)).trans hw318_2), ((HB.out.cell (World.block_lt_of_cell? w _ hw318_3)).trans hw318_3), ((HB.out.cell (World.block_lt_of_cell? w _ hw319_0)).trans hw319_0), ((HB.out.cell (World.block_lt_of_cell? w _ hw319_1)).trans hw319_1), ((HB.out.cell (World.block_lt_of_cell? w _ hw319_2)).trans hw319_2), ((HB.out.cell (World.block_lt_of_cell? w _ hw319_3)).trans hw319_3), ((HB.out.cell (World.block_lt_of_cell? w _ hw320_0)).trans hw320_0), ((HB.out.cell (World.block_lt_of_cell? w _ hw320_1)).trans hw320_1), ((HB.out.cell (World.block_lt_of_cell? w _ hw320_2)).trans hw320_2), ((HB.out.cell (World.block_lt_of_cell? w _ hw320_3)).trans hw320_3)⟩ (fun hHeld => ?_)
                                  clear hK K
                                  refine norm_ (a' := ?_) ?_ ?_
                                  rotate_left
                                  · show Act.put _ (some 160) _ = _
                                    simp only [Act.put, List.setIfInBounds_toArray, List.set_cons_zero, List.set_cons_succ, i64_w, i32_w]
                                    rfl
                                  exact norm_ (by simp only [putAll, Act.put, List.setIfInBounds_toArray, List.set_cons_zero, List.set_cons_succ]) (hCont (v316, v322) _ ⟨hHeld, (by (with_reducible repeat (first | apply qk | apply qj | apply ql)); exact Kd.R_mono HO317.out (fun _ hk => ⟨hk.2, ⟨hk.1.1.2, hk.1.2⟩⟩)), (by (with_reducible repeat (first | apply qk | apply qj | apply ql)); exact Kd.R_mono HO323.out (fun _ hk => ⟨hk.1.2, ⟨hk.1.1.2, hk.2⟩⟩)), (by (with_reducible repeat (first | apply qk | apply qj | apply ql)); exact HO_21.out), (by (with_reducible repeat (first | apply qk | apply qj | apply ql)); exact Kd.R_mono HO_23.out (fun _ hk => ⟨hk.1.2, ⟨hk.2, hk.1.1⟩⟩)), (by (with_reducible repeat (first | refine qa ?_ _ | refine qb ?_ | refine qc ?_ _)); exact BK281.out), (by (with_reducible repeat (first | refine qa ?_ _ | refine qb ?_ | refine qc ?_ _)); exact BK282.out), (by (with_reducible repeat (first | refine qa ?_ _ | refine qb ?_ | refine qc ?_ _)); exact BK283.out), (by repeat (first | (with_reducible first | exact HB.out | apply qg | apply qe | apply qf | refine qd ?_ GE281.out | refine qd ?_ GE282.out | refine qd ?_ GE283.out) | exact HB.out))⟩)
                                · skip
                                  refine Kd.R_lit_step k35 _ 35 ?hg (N := 160) ?hd (xs := ([(⟨a4, (rd_T35 l0 a5).f2, (rd_T35 l0 a5).f1, (rd_T35 l0 a5).f3⟩ : S35)] : List (S35))) (inner := [.int .i64 a4, .int .i64 ((rd_T35 l0 a5).f2), .int .i64 ((rd_T35 l0 a5).f1), .int .i64 ((rd_T35 l0 a5).f3)]) (ok := fun _ => True) (okp := fun _ => True) ?hr ?hp (fun _ hk => hk) trivial (Below.refl _ _) (Nat.le_refl _) (by simp) ?_; (case hd => rfl); (case hg => rfl); (case hr => first | (go_simp; done) | (go_simp; rfl)); (case hp => exact (Reps.c4 (show Kd.M k35 _ _ _ (⟨a4, (rd_T35 l0 a5).f2, (rd_T35 l0 a5).f1, (rd_T35 l0 a5).f3⟩ : S35) [.int .i64 a4, .int .i64 ((rd_T35 l0 a5).f2), .int .i64 ((rd_T35 l0 a5).f1), .int .i64 ((rd_T35 l0 a5).f3)] from (k35_mkM _ _ _ (⟨a4, (rd_T35 l0 a5).f2, (rd_T35 l0 a5).f1, (rd_T35 l0 a5).f3⟩ : S35) )) (Reps.none _ _)))
                                  intro v322 w88 ho89 hb hg_ hnew_
                                  clear hg_ hnew_
                                  (first | rw [← Ny321.out] at ho89 | (simp only [Int.reduceToNat] at ho89; rw [← Ny321.out] at ho89))
                                  have n0_ := Aside0.mk (Kd.R_below (by (with_reducible repeat (first | apply qk | apply qj | apply ql)); exact HO_21.out) hb)
                                  have n1_ := Aside0.mk (Kd.R_elder' (by (with_reducible repeat (first | apply qk | apply qj | apply ql)); exact HO_23.out) (Kd.R_base ho89) hb)
                                  have n2_ := Aside0.mk (Kd.R_lower (Kd.R_newB (Kd.R_new' ho89 (Kd.R_lt (by (with_reducible repeat (first | apply qk | apply qj | apply ql)); exact HO_23.out))) (g := gb281) (o := .cells #[.int .i64 a1_0, .int .i64 a1_1, .int .i64 a1_2, .int .i64 a1_3] 35 (0, 0)) (by (with_reducible repeat (first | refine qa ?_ _ | refine qb ?_ | refine qc ?_ _)); exact BK281.out)) (below_size (by repeat (first | (with_reducible first | exact HB.out | apply qg | apply qe | apply qf | refine qd ?_ GE281.out | refine qd ?_ GE282.out | refine qd ?_ GE283.out) | exact HB.out))))
                                  have n3_ := Aside0.mk (blk_below (g := gb281) (o := .cells #[.int .i64 a1_0, .int .i64 a1_1, .int .i64 a1_2, .int .i64 a1_3] 35 (0, 0)) (by (with_reducible repeat (first | refine qa ?_ _ | refine qb ?_ | refine qc ?_ _)); exact BK281.out) hb)
                                  have n4_ := Aside0.mk (blk_below (g := gb282) (o := .cells #[.int .i64 a3] 3 (0, 0)) (by (with_reducible repeat (first | refine qa ?_ _ | refine qb ?_ | refine qc ?_ _)); exact BK282.out) hb)
                                  have n5_ := Aside0.mk (blk_below (g := gb283) (o := .cells #[.int .i64 a4] 3 (0, 0)) (by (with_reducible repeat (first | refine qa ?_ _ | refine qb ?_ | refine qc ?_ _)); exact BK283.out) hb)
                                  have n6_ := Aside0.mk (below_step (by repeat (first | (with_reducible first | exact HB.out | apply qg | apply qe | apply qf | refine qd ?_ GE281.out | refine qd ?_ GE282.out | refine qd ?_ GE283.out) | exact HB.out)) hb)
                                  clear HO_21
                                  clear HO_23
                                  clear BK281
                                  clear BK282
                                  clear BK283
                                  clear HB
                                  have HO_21 := n0_
                                  have HO_23 := n1_
                                  have HO323 := n2_
                                  have BK281 := n3_
                                  have BK282 := n4_
                                  have BK283 := n5_
                                  have HB := n6_
                                  clear n0_ n1_ n2_ n3_ n4_ n5_ n6_
                                  clear hb ho89
                                  refine hK.out _ _ ⟨(qi BK283.out 0).trans rfl, ((HB.out.cell (World.block_lt_of_cell? w _ hw318_0)).trans hw318_0), ((HB.out.cell (World.block_lt_of_cell? w _ hw318_1)).trans hw318_1), ((HB.out.cell (World.block_lt_of_cell? w _ hw318_2)).trans hw318_2), ((HB.out.cell (World.block_lt_of_cell? w _ hw318_3)).trans hw318_3), ((HB.out.cell (World.block_lt_of_cell? w _ hw319_0)).trans hw319_0), ((HB.out.cell (World.block_lt_of_cell? w _ hw319_1)).trans hw319_1), ((HB.out.cell (World.block_lt_of_cell? w _ hw319_2)).trans hw319_2), ((HB.out.cell (World.block_lt_of_cell? w _ hw319_3)).trans hw319_3), ((HB.out.cell (World.block_lt_of_cell? w _ hw320_0)).trans hw320_0), ((HB.out.cell (World.block_lt_of_cell? w _ hw320_1)).trans hw320_1), ((HB.out.cell (World.block_lt_of_cell? w _ hw320_2)).trans hw320_2), ((HB.out.cell (World.block_lt_of_cell? w _ hw320_3)).trans hw320_3)⟩ (fun hHeld => ?_)
                                  clear hK K
                                  refine norm_ (a' := ?_) ?_ ?_
                                  rotate_left
                                  · show Act.put _ (some 160) _ = _
                                    simp only [Act.put, List.setIfInBounds_toArray, List.set_cons_zero, List.set_cons_succ, i64_w, i32_w]
                                    rfl
                                  refine one_ (i := 1) (N := some 142) #[true, true, true, true, true, true, true, true, true, true, true, true, true, true, true, true, true, true, true, true, false, false] rfl rfl (one_of HT_.out (by kernel_rfl)) (by decide) (fun K hK => ?_)
                                  refine goes_ Try.func18 (by kernel_rfl) rfl #[.slice (some ad318) l0.length c0] (by rfl) rfl rfl (by (try simp only [List.map_toArray, List.map_cons, List.map_nil]); first | done | rfl | (simp only [List.length_drop, List.length_take]; rfl)) ?_
                                  with_reducible refine (ledger_Entry_18.calls _ _ l0 t315 _ ?side1 ?side2 A81.out).mono ?_
                                  (case side1 => repeat (first | exact (Kd.C_below HR0.out HB.out) | (with_reducible refine Kd.C_alloc ?_ _) | (with_reducible refine Kd.C_drewN ?_ _) | (with_reducible refine Kd.C_drew ?_)))
                                  (case side2 => exact HC0.out)
                                  rintro e w90 ⟨v316, rfl, ho0, hb⟩
                                  refine ⟨_, rfl, ?_⟩
                                  have n0_ := Aside0.mk (Kd.R_below (by (with_reducible repeat (first | apply qk | apply qj | apply ql)); exact HO_21.out) hb)
                                  have n1_ := Aside0.mk (Kd.R_elder' (by (with_reducible repeat (first | apply qk | apply qj | apply ql)); exact HO_23.out) (Kd.R_base ho0) hb)
                                  have n2_ := Aside0.mk (Kd.R_elder' (by (with_reducible repeat (first | apply qk | apply qj | apply ql)); exact HO323.out) (Kd.R_base ho0) hb)
                                  have n3_ := Aside0.mk (Kd.R_lower (Kd.R_newB (Kd.R_new' (Kd.R_new' ho0 (Kd.R_lt (by (with_reducible repeat (first | apply qk | apply qj | apply ql)); exact HO_23.out))) (Kd.R_lt (by (with_reducible repeat (first | apply qk | apply qj | apply ql)); exact HO323.out))) (g := gb281) (o := .cells #[.int .i64 a1_0, .int .i64 a1_1, .int .i64 a1_2, .int .i64 a1_3] 35 (0, 0)) (by (with_reducible repeat (first | refine qa ?_ _ | refine qb ?_ | refine qc ?_ _)); exact BK281.out)) (below_size (by repeat (first | (with_reducible first | exact HB.out | apply qg | apply qe | apply qf | refine qd ?_ GE281.out | refine qd ?_ GE282.out | refine qd ?_ GE283.out) | exact HB.out))))
                                  have n4_ := Aside0.mk (blk_below (g := gb281) (o := .cells #[.int .i64 a1_0, .int .i64 a1_1, .int .i64 a1_2, .int .i64 a1_3] 35 (0, 0)) (by (with_reducible repeat (first | refine qa ?_ _ | refine qb ?_ | refine qc ?_ _)); exact BK281.out) hb)
                                  have n5_ := Aside0.mk (blk_below (g := gb282) (o := .cells #[.int .i64 a3] 3 (0, 0)) (by (with_reducible repeat (first | refine qa ?_ _ | refine qb ?_ | refine qc ?_ _)); exact BK282.out) hb)
                                  have n6_ := Aside0.mk (blk_below (g := gb283) (o := .cells #[.int .i64 a4] 3 (0, 0)) (by (with_reducible repeat (first | refine qa ?_ _ | refine qb ?_ | refine qc ?_ _)); exact BK283.out) hb)
                                  have n7_ := Aside0.mk (below_step (by repeat (first | (with_reducible first | exact HB.out | apply qg | apply qe | apply qf | refine qd ?_ GE281.out | refine qd ?_ GE282.out | refine qd ?_ GE283.out) | exact HB.out)) hb)
                                  clear HO_21
                                  clear HO_23
                                  clear HO323
                                  clear BK281
                                  clear BK282
                                  clear BK283
                                  clear HB
                                  have HO_21 := n0_
                                  have HO_23 := n1_
                                  have HO323 := n2_
                                  have HO317 := n3_
                                  have BK281 := n4_
                                  have BK282 := n5_
                                  have BK283 := n6_
                                  have HB := n7_
                                  clear n0_ n1_ n2_ n3_ n4_ n5_ n6_ n7_
                                  (try clear hb)
                                  (try clear hb2)
                                  (try clear hk)
                                  (try clear hi)
                                  (try clear ho0)
                                  refine hK.out _ _ ⟨(qi BK283.out 0).trans rfl, ((HB.out.cell (World.block_lt_of_cell? w _ hw318_0)).trans hw318_0), ((HB.out.cell (World.block_lt_of_cell? w _ hw318_1)).trans hw318_1), ((HB.out.cell (World.block_lt_of_cell? w _ hw318_2)).trans hw318_2), ((HB.out.cell (World.block_lt_of_cell? w _ hw318_3)).trans hw318_3), ((HB.out.cell (World.block_lt_of_cell? w _ hw319_0)).trans hw319_0), ((HB.out.cell (World.block_lt_of_cell? w _ hw319_1)).trans hw319_1), ((HB.out.cell (World.block_lt_of_cell? w _ hw319_2)).trans hw319_2), ((HB.out.cell (World.block_lt_of_cell? w _ hw319_3)).trans hw319_3), ((HB.out.cell (World.block_lt_of_cell? w _ hw320_0)).trans hw320_0), ((HB.out.cell (World.block_lt_of_cell? w _ hw320_1)).trans hw320_1), ((HB.out.cell (World.block_lt_of_cell? w _ hw320_2)).trans hw320_2), ((HB.out.cell (World.block_lt_of_cell? w _ hw320_3)).trans hw320_3)⟩ (fun hHeld => ?_)
                                  clear hK K
                                  refine norm_ (a' := ?_) ?_ ?_
                                  rotate_left
                                  · show Act.put _ (some 142) _ = _
                                    simp only [Act.put, List.setIfInBounds_toArray, List.set_cons_zero, List.set_cons_succ, i64_w, i32_w]
                                    rfl
                                  exact norm_ (by simp only [putAll, Act.put, List.setIfInBounds_toArray, List.set_cons_zero, List.set_cons_succ]) (hCont (v316, v322) _ ⟨hHeld, (by (with_reducible repeat (first | apply qk | apply qj | apply ql)); exact Kd.R_mono HO317.out (fun _ hk => ⟨hk.1.2, ⟨hk.1.1.2, hk.2⟩⟩)), (by (with_reducible repeat (first | apply qk | apply qj | apply ql)); exact Kd.R_mono HO323.out (fun _ hk => ⟨hk.2, ⟨hk.1.1.2, hk.1.2⟩⟩)), (by (with_reducible repeat (first | apply qk | apply qj | apply ql)); exact HO_21.out), (by (with_reducible repeat (first | apply qk | apply qj | apply ql)); exact Kd.R_mono HO_23.out (fun _ hk => ⟨hk.2, ⟨hk.1.2, hk.1.1⟩⟩)), (by (with_reducible repeat (first | refine qa ?_ _ | refine qb ?_ | refine qc ?_ _)); exact BK281.out), (by (with_reducible repeat (first | refine qa ?_ _ | refine qb ?_ | refine qc ?_ _)); exact BK282.out), (by (with_reducible repeat (first | refine qa ?_ _ | refine qb ?_ | refine qc ?_ _)); exact BK283.out), (by repeat (first | (with_reducible first | exact HB.out | apply qg | apply qe | apply qf | refine qd ?_ GE281.out | refine qd ?_ GE282.out | refine qd ?_ GE283.out) | exact HB.out))⟩)
                            rintro ⟨v316, v322⟩ w91 ⟨hS_, h0_, h1_, h2_, h3_, h4_, h5_, h6_, h7_⟩
                            have n0_ : Aside0 (Kd.R k35 35 w91 w.heap.size (fun k_ => some k_ ≠ (v322 : Value).ownBlock ∧ some k_ ≠ (v301 : Value).ownBlock ∧ k_ ≠ gb281) v316 t315) := ⟨h0_⟩
                            have n1_ : Aside0 (Kd.R k35 35 w91 w.heap.size (fun k_ => some k_ ≠ (v316 : Value).ownBlock ∧ some k_ ≠ (v301 : Value).ownBlock ∧ k_ ≠ gb281) v322 y321) := ⟨h1_⟩
                            have n2_ : Aside0 (Kd.R (Kd.int .i64) 3 w91 w.heap.size (fun k_ => k_ ≠ gb282 ∧ k_ ≠ gb283) v297 t295) := ⟨h2_⟩
                            have n3_ : Aside0 (Kd.R k35 35 w91 w.heap.size (fun k_ => some k_ ≠ (v316 : Value).ownBlock ∧ some k_ ≠ (v322 : Value).ownBlock ∧ k_ ≠ gb281) v301 t299) := ⟨h3_⟩
                            have n4_ : Aside0 (w91.heap[gb281]? = some (.cells #[.int .i64 a1_0, .int .i64 a1_1, .int .i64 a1_2, .int .i64 a1_3] 35 (0, 0))) := ⟨h4_⟩
                            have n5_ : Aside0 (w91.heap[gb282]? = some (.cells #[.int .i64 a3] 3 (0, 0))) := ⟨h5_⟩
                            have n6_ : Aside0 (w91.heap[gb283]? = some (.cells #[.int .i64 a4] 3 (0, 0))) := ⟨h6_⟩
                            have n7_ : Aside0 (Below w.heap.size w w91) := ⟨h7_⟩
                            clear HO_21
                            clear HO_23
                            clear BK281
                            clear BK282
                            clear BK283
                            clear HB
                            clear h0_ h1_ h2_ h3_ h4_ h5_ h6_ h7_
                            have HO317 := n0_
                            have HO323 := n1_
                            have HO_21 := n2_
                            have HO_23 := n3_
                            have BK281 := n4_
                            have BK282 := n5_
                            have BK283 := n6_
                            have HB := n7_
                            clear n0_ n1_ n2_ n3_ n4_ n5_ n6_ n7_
                            have hHeld : w91.cell? ⟨gb283, 0, none⟩ = some (.int .i64 a4) ∧ w91.cell? (ad318.add ((a5).toNat * 4)) = some (.int .i64 ((rd_T35 l0 a5).f0)) ∧ w91.cell? ⟨(ad318.add ((a5).toNat * 4)).block, (ad318.add ((a5).toNat * 4)).off + 1, none⟩ = some (.int .i64 ((rd_T35 l0 a5).f1)) ∧ w91.cell? ⟨(ad318.add ((a5).toNat * 4)).block, (ad318.add ((a5).toNat * 4)).off + 2, none⟩ = some (.int .i64 ((rd_T35 l0 a5).f2)) ∧ w91.cell? ⟨(ad318.add ((a5).toNat * 4)).block, (ad318.add ((a5).toNat * 4)).off + 3, none⟩ = some (.int .i64 ((rd_T35 l0 a5).f3)) ∧ w91.cell? (ad318.add ((a5).toNat * 4)) = some (.int .i64 ((rd_T35 l0 a5).f0)) ∧ w91.cell? ⟨(ad318.add ((a5).toNat * 4)).block, (ad318.add ((a5).toNat * 4)).off + 1, none⟩ = some (.int .i64 ((rd_T35 l0 a5).f1)) ∧ w91.cell? ⟨(ad318.add ((a5).toNat * 4)).block, (ad318.add ((a5).toNat * 4)).off + 2, none⟩ = some (.int .i64 ((rd_T35 l0 a5).f2)) ∧ w91.cell? ⟨(ad318.add ((a5).toNat * 4)).block, (ad318.add ((a5).toNat * 4)).off + 3, none⟩ = some (.int .i64 ((rd_T35 l0 a5).f3)) ∧ w91.cell? (ad318.add ((a5).toNat * 4)) = some (.int .i64 ((rd_T35 l0 a5).f0)) ∧ w91.cell? ⟨(ad318.add ((a5).toNat * 4)).block, (ad318.add ((a5).toNat * 4)).off + 1, none⟩ = some (.int .i64 ((rd_T35 l0 a5).f1)) ∧ w91.cell? ⟨(ad318.add ((a5).toNat * 4)).block, (ad318.add ((a5).toNat * 4)).off + 2, none⟩ = some (.int .i64 ((rd_T35 l0 a5).f2)) ∧ w91.cell? ⟨(ad318.add ((a5).toNat * 4)).block, (ad318.add ((a5).toNat * 4)).off + 3, none⟩ = some (.int .i64 ((rd_T35 l0 a5).f3)) := hS_
                            obtain ⟨Ao93, co93, eo93⟩ := Kd.R_slice HO323.out
                            (first | subst eo93 | (injection eo93 with f1_ f2_ f3_; have f4_ := f1_.symm; have f5_ := f3_.symm; clear f1_ f2_ f3_; subst f4_; subst f5_))
                            refine norm_ (a' := ?_) ?_ ?_
                            rotate_left
                            · simp only [putAll, Act.put, List.setIfInBounds_toArray, List.set_cons_zero, List.set_cons_succ]
                              rfl
                            refine one_ (i := 20) (N := some 161) #[true, true, true, true, true, true, true, true, true, true, true, true, true, true, true, true, true, true, true, true, true, false] rfl rfl (one_of HT_.out (by kernel_rfl)) (by decide) (fun K hK => ?_)
                            refine Kd.R_append_rows_step k35 (w0 := w) w.heap.size (by rfl) (.tmp 142) (.tmp 160) 24 35 (.agg #[(.int .i64 0), (.int .i64 0), (.int .i64 0), (.int .i64 0)]) 32 rfl Try.underlying24 info35 rfl (by decide) (by omega) v316 t315 y321 _ _ _ (fun k_ => some k_ ≠ (v301 : Value).ownBlock ∧ some k_ ≠ (.slice Ao93 y321.length co93 : Value).ownBlock ∧ k_ ≠ gb281) (fun _ => False) rfl rfl ?aO ?aR (fun _ _ h => h) (fun _ h => h.elim) ?aF ?aB ?aS ?aL ?_
                            (case aR => repeat (first | exact (Kd.R_reads' HO323.out).2.2 | (with_reducible refine Kd.C_alloc ?_ _) | (with_reducible refine Kd.C_drewN ?_ _) | (with_reducible refine Kd.C_drew ?_)))
                            (case aB => exact (by repeat (first | (with_reducible first | exact HB.out | apply qg | apply qe | apply qf | refine qd ?_ GE281.out | refine qd ?_ GE282.out | refine qd ?_ GE283.out) | exact HB.out)))
                            (case aF => exact (fun k_ hk => ⟨Kd.fresh' (Kd.R_lt (by (with_reducible repeat (first | apply qk | apply qj | apply ql)); exact HO_23.out)) k_ hk, Kd.fresh' (Kd.R_lt (by (with_reducible repeat (first | apply qk | apply qj | apply ql)); exact HO323.out)) k_ hk, Kd.freshB (g := gb281) (o := .cells #[.int .i64 a1_0, .int .i64 a1_1, .int .i64 a1_2, .int .i64 a1_3] 35 (0, 0)) (by (with_reducible repeat (first | refine qa ?_ _ | refine qb ?_ | refine qc ?_ _)); exact BK281.out) k_ hk⟩))
                            (case aO => exact (by (with_reducible repeat (first | apply qk | apply qj | apply ql)); exact Kd.R_mono HO317.out (fun _ hk => ⟨hk.2.1, ⟨hk.1, hk.2.2⟩⟩)))
                            (case aS => exact (below_size (by repeat (first | (with_reducible first | exact HB.out | apply qg | apply qe | apply qf | refine qd ?_ GE281.out | refine qd ?_ GE282.out | refine qd ?_ GE283.out) | exact HB.out))))
                            (case aL => have := LMc84.out; omega)
                            intro v325 w92 ho hb hg hat
                            rw [← Ny324.out] at ho
                            have n0_ := Aside0.mk (Kd.R_over' (by (with_reducible repeat (first | apply qk | apply qj | apply ql)); exact HO_21.out) (Kd.R_typed (by (with_reducible repeat (first | apply qk | apply qj | apply ql)); exact HO317.out)) (by decide) hg)
                            have n1_ := Aside0.mk (Kd.R_after (ok := (fun k_ => some k_ ≠ (.slice Ao93 y321.length co93 : Value).ownBlock ∧ k_ ≠ gb281)) (by (with_reducible repeat (first | apply qk | apply qj | apply ql)); exact Kd.R_mono HO_23.out (fun _ hk => ⟨⟨hk.2.1, hk.2.2⟩, hk.1⟩)) hg hat)
                            have n2_ := Aside0.mk (blk_grown (g := gb281) (o := .cells #[.int .i64 a1_0, .int .i64 a1_1, .int .i64 a1_2, .int .i64 a1_3] 35 (0, 0)) (by (with_reducible repeat (first | refine qa ?_ _ | refine qb ?_ | refine qc ?_ _)); exact BK281.out) hg (Kd.R_away HO317.out (fun _ hk => hk.2.2)))
                            have n3_ := Aside0.mk (blk_grown (g := gb282) (o := .cells #[.int .i64 a3] 3 (0, 0)) (by (with_reducible repeat (first | refine qa ?_ _ | refine qb ?_ | refine qc ?_ _)); exact BK282.out) hg (Kd.R_ne HO317.out BK282.out (by decide)))
                            have n4_ := Aside0.mk (blk_grown (g := gb283) (o := .cells #[.int .i64 a4] 3 (0, 0)) (by (with_reducible repeat (first | refine qa ?_ _ | refine qb ?_ | refine qc ?_ _)); exact BK283.out) hg (Kd.R_ne HO317.out BK283.out (by decide)))
                            have n5_ := Aside0.mk (Kd.R_after (ok := (fun k_ => some k_ ≠ (v301 : Value).ownBlock ∧ k_ ≠ gb281)) (by (with_reducible repeat (first | apply qk | apply qj | apply ql)); exact Kd.R_mono HO323.out (fun _ hk => ⟨⟨hk.2.1, hk.2.2⟩, hk.1⟩)) hg hat)
                            have n6_ := Aside0.mk (hb)
                            have n7_ := Aside0.mk (ho)
                            clear HO_21
                            clear HO_23
                            clear BK281
                            clear BK282
                            clear BK283
                            clear HO323
                            clear HB
                            clear HO317
                            have HO_21 := n0_
                            have HO_23 := n1_
                            have BK281 := n2_
                            have BK282 := n3_
                            have BK283 := n4_
                            have HO323 := n5_
                            have HB := n6_
                            have HO326 := n7_
                            clear n0_ n1_ n2_ n3_ n4_ n5_ n6_ n7_
                            clear ho hb hg hat
                            refine hK.out _ _ ⟨(qi BK283.out 0).trans rfl, ((HB.out.cell (World.block_lt_of_cell? w _ hw318_0)).trans hw318_0), ((HB.out.cell (World.block_lt_of_cell? w _ hw318_1)).trans hw318_1), ((HB.out.cell (World.block_lt_of_cell? w _ hw318_2)).trans hw318_2), ((HB.out.cell (World.block_lt_of_cell? w _ hw318_3)).trans hw318_3), ((HB.out.cell (World.block_lt_of_cell? w _ hw319_0)).trans hw319_0), ((HB.out.cell (World.block_lt_of_cell? w _ hw319_1)).trans hw319_1), ((HB.out.cell (World.block_lt_of_cell? w _ hw319_2)).trans hw319_2), ((HB.out.cell (World.block_lt_of_cell? w _ hw319_3)).trans hw319_3), ((HB.out.cell (World.block_lt_of_cell? w _ hw320_0)).trans hw320_0), ((HB.out.cell (World.block_lt_of_cell? w _ hw320_1)).trans hw320_1), ((HB.out.cell (World.block_lt_of_cell? w _ hw320_2)).trans hw320_2), ((HB.out.cell (World.block_lt_of_cell? w _ hw320_3)).trans hw320_3)⟩ (fun hHeld => ?_)
                            clear hK K
                            refine norm_ (a' := ?_) ?_ ?_
                            rotate_left
                            · show Act.put _ (some 161) _ = _
                              simp only [Act.put, List.setIfInBounds_toArray, List.set_cons_zero, List.set_cons_succ, i64_w, i32_w]
                              rfl
                            refine pure_ (i := 21) (N := some 26) (v := ?_) (a' := ?_) #[true, true, true, true, true, true, true, true, true, true, true, true, true, true, true, true, true, true, true, true, true, true] rfl rfl (any_of HT_.out (by kernel_rfl)) (fun _ _ _ h => h) (Or.inl ⟨by rfl, ?_⟩) ?_ ?_
                            rotate_left
                            · intro w'
                              go_simp
                              with_reducible rfl
                            rotate_left
                            · simp only [Act.put, List.setIfInBounds_toArray, List.set_cons_zero, List.set_cons_succ, i64_w, i32_w]
                              rfl
                            refine done_ (done_of HT_.out (by kernel_rfl)) ?_
                            obtain ⟨Ao94, co94, eo94⟩ := Kd.R_slice HO326.out
                            subst eo94
                            go_upto_region 16 with (first | ((with_reducible refine gate_callee (f := 21) rfl ?_); refine goesL_ (some 163) rfl rfl Try.func21 (by kernel_rfl) rfl #[.slice Ao94 y324.length co94] rfl (by (try simp only [List.map_toArray, List.map_cons, List.map_nil]); first | done | rfl | (simp only [List.length_drop, List.length_take]; rfl)) ?_; (with_reducible refine (mootlaw4_ledgerFault.calls kj73 _ _ y324 t327 _ ?side1 ?side2 A85.out).mono ?_); (case side1 => repeat (first | exact (Kd.R_reads' HO326.out).2.2 | (with_reducible refine Kd.C_alloc ?_ _) | (with_reducible refine Kd.C_drewN ?_ _) | (with_reducible refine Kd.C_drew ?_))); (case side2 => exact (Kd.R_reads' HO326.out).2.1); rintro e w95 ⟨rfl, hb⟩; refine ⟨_, rfl, ?_⟩; have n0_ := Aside0.mk (Kd.R_below (by (with_reducible repeat (first | apply qk | apply qj | apply ql)); exact HO_21.out) hb); have n1_ := Aside0.mk (Kd.R_below (by (with_reducible repeat (first | apply qk | apply qj | apply ql)); exact HO_23.out) hb); have n2_ := Aside0.mk (Kd.R_below (by (with_reducible repeat (first | apply qk | apply qj | apply ql)); exact HO323.out) hb); have n3_ := Aside0.mk (Kd.R_below (by (with_reducible repeat (first | apply qk | apply qj | apply ql)); exact HO326.out) hb); have n4_ := Aside0.mk (blk_below (g := gb281) (o := .cells #[.int .i64 a1_0, .int .i64 a1_1, .int .i64 a1_2, .int .i64 a1_3] 35 (0, 0)) (by (with_reducible repeat (first | refine qa ?_ _ | refine qb ?_ | refine qc ?_ _)); exact BK281.out) hb); have n5_ := Aside0.mk (blk_below (g := gb282) (o := .cells #[.int .i64 a3] 3 (0, 0)) (by (with_reducible repeat (first | refine qa ?_ _ | refine qb ?_ | refine qc ?_ _)); exact BK282.out) hb); have n6_ := Aside0.mk (blk_below (g := gb283) (o := .cells #[.int .i64 a4] 3 (0, 0)) (by (with_reducible repeat (first | refine qa ?_ _ | refine qb ?_ | refine qc ?_ _)); exact BK283.out) hb); have n7_ := Aside0.mk (below_step (by repeat (first | (with_reducible first | exact HB.out | apply qg | apply qe | apply qf | refine qd ?_ GE281.out | refine qd ?_ GE282.out | refine qd ?_ GE283.out) | exact HB.out)) hb); clear HO_21; clear HO_23; clear HO323; clear HO326; clear BK281; clear BK282; clear BK283; clear HB; have HO_21 := n0_; have HO_23 := n1_; have HO323 := n2_; have HO326 := n3_; have BK281 := n4_; have BK282 := n5_; have BK283 := n6_; have HB := n7_; clear n0_ n1_ n2_ n3_ n4_ n5_ n6_ n7_; (try clear hb); (try clear hb2); (try clear hk); (try clear hi)))
                            (try simp only [Act.put, List.setIfInBounds_toArray, List.set_cons_zero, List.set_cons_succ])
                            go_cut [185] (fun v185 wc => ∃ (kq : Nat) (x185_85 : Bool), v185 = .bool x185_85 ∧ Aside0 (mootlaw4_LedgerTells.j3 kq l0 a2 t290 t291 t292 t293 t294 t295 x185_85 a3 a4 = some r) ∧ Aside0 (kq ≤ kj73) ∧ Aside0 (Kd.R (Kd.int .i64) 3 wc w.heap.size (fun k_ => k_ ≠ gb282 ∧ k_ ≠ gb283) v297 t295) ∧ Aside0 (wc.heap[gb281]? = some (.cells #[.int .i64 a1_0, .int .i64 a1_1, .int .i64 a1_2, .int .i64 a1_3] 35 (0, 0))) ∧ Aside0 (wc.heap[gb282]? = some (.cells #[.int .i64 a3] 3 (0, 0))) ∧ Aside0 (wc.heap[gb283]? = some (.cells #[.int .i64 a4] 3 (0, 0))) ∧ Aside0 (Below w.heap.size w wc))
                            case first => as_aux_lemma =>
                              have H := HC86.out
                              clear HC86
                              by_cases c96 : t300 = t327
                              · rw [if_pos c96] at H
                                have c96b0 : (t300 == t327) = true := beq_iff_eq.mpr c96
                                have c96b1 : (t300 != t327) = false := bne_eq_false_iff_eq.mpr c96
                                clear c96
                                (first | rw [c96b0] | (simp only [i64_w, i32_w]; rw [c96b0]) | skip)
                                by_cases c97 : t327 = 0
                                · rw [if_pos c97] at H
                                  have c97b0 : (t327 == 0) = true := beq_iff_eq.mpr c97
                                  have c97b1 : (t327 != 0) = false := bne_eq_false_iff_eq.mpr c97
                                  clear c97
                                  replace H := Option.bind_eq_some_iff.mp H
                                  obtain ⟨t328, A980, H⟩ := H
                                  replace H : (if t328 = true then (mootlaw4_LedgerTells.j3 kj73 l0 a2 t290 t291 t292 t293 t294 t295 false a3 a4) else (mootlaw4_LedgerTells.j3 kj73 l0 a2 t290 t291 t292 t293 t294 t295 true a3 a4)) = some r := H
                                  have A98 := Aside0.mk A980
                                  clear A980
                                  by_cases c99 : t328 = true
                                  · subst c99
                                    have H1 : (mootlaw4_LedgerTells.j3 kj73 l0 a2 t290 t291 t292 t293 t294 t295 false a3 a4) = some r := by rw [if_pos rfl] at H; exact H
                                    clear H
                                    have H := H1
                                    clear H1
                                    have H' := Aside0.mk H
                                    clear H
                                    obtain ⟨Ao100, co100, eo100⟩ := Kd.R_slice HO_23.out
                                    subst eo100
                                    go_wp2_with (first | (go_at_call 24; (with_reducible refine (ledger_Entry_24.calls kj73 _ _ t299 _ _ y324 true _ ?side1 ?side2 ?side3 ?side4 A98.out).mono ?_); (case side1 => repeat (first | exact (Kd.R_reads' HO_23.out).2.2 | (with_reducible refine Kd.C_alloc ?_ _) | (with_reducible refine Kd.C_drewN ?_ _) | (with_reducible refine Kd.C_drew ?_))); (case side2 => exact (Kd.R_reads' HO_23.out).2.1); (case side3 => repeat (first | exact (Kd.R_reads' HO326.out).2.2 | (with_reducible refine Kd.C_alloc ?_ _) | (with_reducible refine Kd.C_drewN ?_ _) | (with_reducible refine Kd.C_drew ?_))); (case side4 => exact (Kd.R_reads' HO326.out).2.1); rintro e w' ⟨rfl, ⟨nd, rfl⟩⟩))
                                    go_meet
                                    case rel => exact ⟨_, (false), (by first | rfl | (simp; done) | (simp [*]; done)), H', ⟨by have := HJ16.out; have := HJ73.out; first | omega | exact Nat.le_refl _⟩, ⟨by (with_reducible repeat (first | apply qk | apply qj | apply ql)); exact HO_21.out⟩, ⟨by (with_reducible repeat (first | refine qa ?_ _ | refine qb ?_ | refine qc ?_ _)); exact BK281.out⟩, ⟨by (with_reducible repeat (first | refine qa ?_ _ | refine qb ?_ | refine qc ?_ _)); exact BK282.out⟩, ⟨by (with_reducible repeat (first | refine qa ?_ _ | refine qb ?_ | refine qc ?_ _)); exact BK283.out⟩, ⟨by repeat (first | (with_reducible first | exact HB.out | apply qg | apply qe | apply qf | refine qd ?_ GE281.out | refine qd ?_ GE282.out | refine qd ?_ GE283.out) | exact HB.out)⟩⟩
                                  · replace c99 := Bool.eq_false_iff.mpr c99
                                    subst c99
                                    have H1 : (mootlaw4_LedgerTells.j3 kj73 l0 a2 t290 t291 t292 t293 t294 t295 true a3 a4) = some r := by rw [if_neg (show ¬ (false = true) by decide)] at H; exact H
                                    clear H
                                    have H := H1
                                    clear H1
                                    have H' := Aside0.mk H
                                    clear H
                                    obtain ⟨Ao101, co101, eo101⟩ := Kd.R_slice HO_23.out
                                    subst eo101
                                    go_wp2_with (first | (go_at_call 24; (with_reducible refine (ledger_Entry_24.calls kj73 _ _ t299 _ _ y324 false _ ?side1 ?side2 ?side3 ?side4 A98.out).mono ?_); (case side1 => repeat (first | exact (Kd.R_reads' HO_23.out).2.2 | (with_reducible refine Kd.C_alloc ?_ _) | (with_reducible refine Kd.C_drewN ?_ _) | (with_reducible refine Kd.C_drew ?_))); (case side2 => exact (Kd.R_reads' HO_23.out).2.1); (case side3 => repeat (first | exact (Kd.R_reads' HO326.out).2.2 | (with_reducible refine Kd.C_alloc ?_ _) | (with_reducible refine Kd.C_drewN ?_ _) | (with_reducible refine Kd.C_drew ?_))); (case side4 => exact (Kd.R_reads' HO326.out).2.1); rintro e w' ⟨rfl, ⟨nd, rfl⟩⟩))
                                    go_meet
                                    case rel => exact ⟨_, (true), (by first | rfl | (simp; done) | (simp [*]; done)), H', ⟨by have := HJ16.out; have := HJ73.out; first | omega | exact Nat.le_refl _⟩, ⟨by (with_reducible repeat (first | apply qk | apply qj | apply ql)); exact HO_21.out⟩, ⟨by (with_reducible repeat (first | refine qa ?_ _ | refine qb ?_ | refine qc ?_ _)); exact BK281.out⟩, ⟨by (with_reducible repeat (first | refine qa ?_ _ | refine qb ?_ | refine qc ?_ _)); exact BK282.out⟩, ⟨by (with_reducible repeat (first | refine qa ?_ _ | refine qb ?_ | refine qc ?_ _)); exact BK283.out⟩, ⟨by repeat (first | (with_reducible first | exact HB.out | apply qg | apply qe | apply qf | refine qd ?_ GE281.out | refine qd ?_ GE282.out | refine qd ?_ GE283.out) | exact HB.out)⟩⟩
                                · rw [if_neg c97] at H
                                  have c97b0 : (t327 == 0) = false := beq_eq_false_iff_ne.mpr c97
                                  have c97b1 : (t327 != 0) = true := bne_iff_ne.mpr c97
                                  have H' := Aside0.mk H
                                  clear H
                                  obtain ⟨Ao102, co102, eo102⟩ := Kd.R_slice HO_23.out
                                  subst eo102
                                  go_wp2
                                  go_meet
                                  case rel => exact ⟨_, (decide ((t299.length : Int) > 0)), (by first | rfl | (simp; done) | (simp [*]; done)), H', ⟨by have := HJ16.out; have := HJ73.out; first | omega | exact Nat.le_refl _⟩, ⟨by (with_reducible repeat (first | apply qk | apply qj | apply ql)); exact HO_21.out⟩, ⟨by (with_reducible repeat (first | refine qa ?_ _ | refine qb ?_ | refine qc ?_ _)); exact BK281.out⟩, ⟨by (with_reducible repeat (first | refine qa ?_ _ | refine qb ?_ | refine qc ?_ _)); exact BK282.out⟩, ⟨by (with_reducible repeat (first | refine qa ?_ _ | refine qb ?_ | refine qc ?_ _)); exact BK283.out⟩, ⟨by repeat (first | (with_reducible first | exact HB.out | apply qg | apply qe | apply qf | refine qd ?_ GE281.out | refine qd ?_ GE282.out | refine qd ?_ GE283.out) | exact HB.out)⟩⟩
                              · rw [if_neg c96] at H
                                have c96b0 : (t300 == t327) = false := beq_eq_false_iff_ne.mpr c96
                                have c96b1 : (t300 != t327) = true := bne_iff_ne.mpr c96
                                (first | rw [c96b0] | (simp only [i64_w, i32_w]; rw [c96b0]) | skip)
                                have H' := Aside0.mk H
                                clear H
                                go_wp2
                                go_meet
                                case rel => exact ⟨_, (true), (by first | rfl | (simp; done) | (simp [*]; done)), H', ⟨by have := HJ16.out; have := HJ73.out; first | omega | exact Nat.le_refl _⟩, ⟨by (with_reducible repeat (first | apply qk | apply qj | apply ql)); exact HO_21.out⟩, ⟨by (with_reducible repeat (first | refine qa ?_ _ | refine qb ?_ | refine qc ?_ _)); exact BK281.out⟩, ⟨by (with_reducible repeat (first | refine qa ?_ _ | refine qb ?_ | refine qc ?_ _)); exact BK282.out⟩, ⟨by (with_reducible repeat (first | refine qa ?_ _ | refine qb ?_ | refine qc ?_ _)); exact BK283.out⟩, ⟨by repeat (first | (with_reducible first | exact HB.out | apply qg | apply qe | apply qf | refine qd ?_ GE281.out | refine qd ?_ GE282.out | refine qd ?_ GE283.out) | exact HB.out)⟩⟩
                            case rest => as_aux_lemma =>
                              clear HC86
                              try clear c1
                              try clear c2
                              try clear p2
                              try clear p3
                              try clear q3
                              try clear hx3
                              try clear c4
                              try clear p6
                              try clear c7
                              try clear c8
                              try clear c9
                              try clear c18
                              try clear c21
                              try clear p31
                              try clear q31
                              try clear hx31
                              try clear p32
                              try clear q32
                              try clear hx32
                              try clear p64
                              try clear c76
                              try clear c80
                              try clear c82
                              try clear c82b0
                              try clear c83
                              try clear c83b0
                              try clear c84
                              try clear c96
                              try clear c96b0
                              try clear c96b1
                              try clear c97
                              try clear c97b0
                              try clear c97b1
                              try clear c99
                              try clear hfz25_0
                              try clear hfz25_1
                              try clear hfz25_2
                              try clear hfz25_3
                              try clear hfz28_0
                              try clear hfz30_0
                              try clear hfz31_0
                              try clear hfz34_0
                              try clear hx318_0
                              try clear hx318_1
                              try clear hx318_2
                              try clear hx318_3
                              try clear hx319_0
                              try clear hx319_1
                              try clear hx319_2
                              try clear hx319_3
                              try clear hx320_0
                              try clear hx320_1
                              try clear hx320_2
                              try clear hx320_3
                              try clear p2
                              try clear p318
                              try clear p319
                              try clear p320
                              try clear p6
                              try clear p64
                              try clear q318
                              try clear q319
                              try clear q320
                              obtain ⟨kq, x185_85, rfl, HA, HJ85, HO_21, BK281, BK282, BK283, HB⟩ := hcut
                              cases kq with
                              | zero => exact absurd HA.out (by simp [mootlaw4_LedgerTells.j3])
                              | succ kj85 =>
                                have H := HA.out
                                clear HA
                                simp only [mootlaw4_LedgerTells.j3] at H
                                by_cases c103 : x185_85 = true
                                · subst c103
                                  have H1 : (some false) = some r := by rw [if_pos rfl] at H; exact H
                                  clear H
                                  have H := H1
                                  clear H1
                                  obtain rfl := Option.some.inj H
                                  go_wp2
                                  go_ret
                                  exact ⟨by first | rfl | (simp [errW_none, errW_some] <;> rfl) | (simp [*, errW_none, errW_some] <;> rfl), by repeat (first | (with_reducible first | exact HB.out | apply qg | apply qe | apply qf | refine qd ?_ GE281.out | refine qd ?_ GE282.out | refine qd ?_ GE283.out) | exact HB.out)⟩
                                · replace c103 := Bool.eq_false_iff.mpr c103
                                  subst c103
                                  have H1 : (mootlaw4_LedgerTells.j4 kj85 l0 a2 t290 t291 t292 t293 t294 t295 a3 a4) = some r := by rw [if_neg (show ¬ (false = true) by decide)] at H; exact H
                                  clear H
                                  have H := H1
                                  clear H1
                                  have H' := Aside0.mk H
                                  clear H
                                  go_wp2
                                  go_meet
                                  case rel => exact ⟨_, H', ⟨by have := HJ16.out; have := HJ73.out; have := HJ85.out; first | omega | exact Nat.le_refl _⟩, ⟨by (with_reducible repeat (first | apply qk | apply qj | apply ql)); exact HO_21.out⟩, ⟨by (with_reducible repeat (first | refine qa ?_ _ | refine qb ?_ | refine qc ?_ _)); exact BK281.out⟩, ⟨by (with_reducible repeat (first | refine qa ?_ _ | refine qb ?_ | refine qc ?_ _)); exact BK282.out⟩, ⟨by (with_reducible repeat (first | refine qa ?_ _ | refine qb ?_ | refine qc ?_ _)); exact BK283.out⟩, ⟨by repeat (first | (with_reducible first | exact HB.out | apply qg | apply qe | apply qf | refine qd ?_ GE281.out | refine qd ?_ GE282.out | refine qd ?_ GE283.out) | exact HB.out)⟩⟩
                          · rw [if_neg c84] at H
                            exact absurd H (by simp)
                        · rw [if_neg c83] at H
                          exact absurd H (by simp)
                      · rw [if_neg c82] at H
                        exact absurd H (by simp)
              case rest => as_aux_lemma =>
                clear HC73
                try clear c1
                try clear c2
                try clear p2
                try clear p3
                try clear q3
                try clear hx3
                try clear c4
                try clear p6
                try clear c7
                try clear c8
                try clear c9
                try clear c10
                try clear c18
                try clear c21
                try clear p31
                try clear q31
                try clear hx31
                try clear p32
                try clear q32
                try clear hx32
                try clear p64
                try clear c76
                try clear c80
                try clear c82
                try clear c82b0
                try clear c83
                try clear c83b0
                try clear c84
                try clear c96
                try clear c96b0
                try clear c96b1
                try clear c97
                try clear c97b0
                try clear c97b1
                try clear c99
                try clear c103
                try clear hfz25_0
                try clear hfz25_1
                try clear hfz25_2
                try clear hfz25_3
                try clear hfz28_0
                try clear hfz30_0
                try clear hfz31_0
                try clear hfz34_0
                try clear hx318_0
                try clear hx318_1
                try clear hx318_2
                try clear hx318_3
                try clear hx319_0
                try clear hx319_1
                try clear hx319_2
                try clear hx319_3
                try clear hx320_0
                try clear hx320_1
                try clear hx320_2
                try clear hx320_3
                try clear p2
                try clear p3
                try clear p31
                try clear p318
                try clear p319
                try clear p32
                try clear p320
                try clear p6
                try clear p64
                try clear q3
                try clear q31
                try clear q318
                try clear q319
                try clear q32
                try clear q320
                obtain ⟨kq, HA, HJ72, HO_21, BK281, BK282, BK283, HB⟩ := hcut
                cases kq with
                | zero => exact absurd HA.out (by simp [mootlaw4_LedgerTells.j4])
                | succ kj72 =>
                  have H := HA.out
                  clear HA
                  simp only [mootlaw4_LedgerTells.j4] at H
                  have H' := Aside0.mk H
                  clear H
                  go_wp2
                  go_loopg [202] kj72 (fun kq v202 w' => ∃ (x202_3 : Int), v202 = .int .i64 x202_3 ∧ Aside0 (mootlaw4_LedgerTells.l0 kq l0 a2 t290 t291 t292 t293 t294 t295 x202_3 a3 a4 = some r) ∧ Aside0 (kq ≤ kj72) ∧ Aside0 (Kd.R (Kd.int .i64) 3 w' w.heap.size (fun k_ => k_ ≠ gb282 ∧ k_ ≠ gb283) v297 t295) ∧ Aside0 (w'.heap[gb281]? = some (.cells #[.int .i64 a1_0, .int .i64 a1_1, .int .i64 a1_2, .int .i64 a1_3] 35 (0, 0))) ∧ Aside0 (w'.heap[gb282]? = some (.cells #[.int .i64 a3] 3 (0, 0))) ∧ Aside0 (w'.heap[gb283]? = some (.cells #[.int .i64 a4] 3 (0, 0))) ∧ Aside0 (Below w.heap.size w w'))
                  case atStart => exact ⟨(0), (by first | rfl | (simp; done) | (simp [*]; done)), H', ⟨Nat.le_refl _⟩, ⟨by (with_reducible repeat (first | apply qk | apply qj | apply ql)); exact HO_21.out⟩, ⟨by (with_reducible repeat (first | refine qa ?_ _ | refine qb ?_ | refine qc ?_ _)); exact BK281.out⟩, ⟨by (with_reducible repeat (first | refine qa ?_ _ | refine qb ?_ | refine qc ?_ _)); exact BK282.out⟩, ⟨by (with_reducible repeat (first | refine qa ?_ _ | refine qb ?_ | refine qc ?_ _)); exact BK283.out⟩, ⟨by repeat (first | (with_reducible first | exact HB.out | apply qg | apply qe | apply qf | refine qd ?_ GE281.out | refine qd ?_ GE282.out | refine qd ?_ GE283.out) | exact HB.out)⟩⟩
                  case round => as_aux_lemma =>
                    clear H'
                    try clear c1
                    try clear c2
                    try clear p2
                    try clear p3
                    try clear q3
                    try clear hx3
                    try clear c4
                    try clear p6
                    try clear c7
                    try clear c8
                    try clear c9
                    try clear c10
                    try clear c18
                    try clear c21
                    try clear p31
                    try clear q31
                    try clear hx31
                    try clear p32
                    try clear q32
                    try clear hx32
                    try clear p64
                    try clear c76
                    try clear c80
                    try clear c82
                    try clear c82b0
                    try clear c83
                    try clear c83b0
                    try clear c84
                    try clear c96
                    try clear c96b0
                    try clear c96b1
                    try clear c97
                    try clear c97b0
                    try clear c97b1
                    try clear c99
                    try clear c103
                    try clear hfz25_0
                    try clear hfz25_1
                    try clear hfz25_2
                    try clear hfz25_3
                    try clear hfz28_0
                    try clear hfz30_0
                    try clear hfz31_0
                    try clear hfz34_0
                    try clear hx318_0
                    try clear hx318_1
                    try clear hx318_2
                    try clear hx318_3
                    try clear hx319_0
                    try clear hx319_1
                    try clear hx319_2
                    try clear hx319_3
                    try clear hx320_0
                    try clear hx320_1
                    try clear hx320_2
                    try clear hx320_3
                    try clear p2
                    try clear p3
                    try clear p31
                    try clear p318
                    try clear p319
                    try clear p32
                    try clear p320
                    try clear p6
                    try clear p64
                    try clear q3
                    try clear q31
                    try clear q318
                    try clear q319
                    try clear q32
                    try clear q320
                    obtain ⟨x202_3, rfl, HA, HK3, HO_21, BK281, BK282, BK283, HB⟩ := hrel
                    cases gk with
                    | zero => exact absurd HA.out (by simp [mootlaw4_LedgerTells.l0])
                    | succ k3 =>
                      have H := HA.out
                      clear HA
                      simp only [mootlaw4_LedgerTells.l0] at H
                      by_cases c104 : x202_3 < 100
                      · rw [if_pos c104] at H
                        have c104b0 : decide (x202_3 < 100) = true := decide_eq_true c104
                        clear c104
                        replace H := Option.bind_eq_some_iff.mp H
                        obtain ⟨⟨t329, t330⟩, A1050, H⟩ := H
                        replace H : ((slices_Contains_int_int.f k3 t295 x202_3).bind fun t331 => (if ((decide ((wrap64 (t329 + t330)) > 0)) != t331) = true then (some false) else (mootlaw4_LedgerTells.l0 k3 l0 a2 t290 t291 t292 t293 t294 t295 (wrap64 (x202_3 + 1)) a3 a4))) = some r := H
                        have A105 := Aside0.mk A1050
                        clear A1050
                        replace H := Option.bind_eq_some_iff.mp H
                        obtain ⟨t331, A1060, H⟩ := H
                        replace H : (if ((decide ((wrap64 (t329 + t330)) > 0)) != t331) = true then (some false) else (mootlaw4_LedgerTells.l0 k3 l0 a2 t290 t291 t292 t293 t294 t295 (wrap64 (x202_3 + 1)) a3 a4)) = some r := H
                        have A106 := Aside0.mk A1060
                        clear A1060
                        by_cases c107 : ((decide ((wrap64 (t329 + t330)) > 0)) != t331) = true
                        · rw [if_pos c107] at H
                          have c107b0 : ((decide ((wrap64 (t329 + t330)) > 0)) != t331) = true := c107
                          (try (have c107b1 : decide ((decide ((wrap64 (t329 + t330)) > 0)) = t331) = false := by simpa using c107))
                          (try (have c107b2 : ((decide ((wrap64 (t329 + t330)) > 0)) == t331) = false := by simpa using c107))
                          (try (have c107b3 : ¬ ((decide ((wrap64 (t329 + t330)) > 0)) = t331) := by simpa using c107))
                          clear c107
                          obtain rfl := Option.some.inj H
                          go_wp2_with (first | (go_at_call 22; (with_reducible refine (mootlaw4_moved_c32.calls _ _ l0 x202_3  t329 t330 _ ?side1 ?side2 A105.out).mono ?_); (case side1 => repeat (first | exact (Kd.C_below HR0.out HB.out) | (with_reducible refine Kd.C_alloc ?_ _) | (with_reducible refine Kd.C_drewN ?_ _) | (with_reducible refine Kd.C_drew ?_))); (case side2 => exact HC0.out); rintro e w108 ⟨rfl, hb⟩; have n0_ := Aside0.mk (Kd.R_below (by (with_reducible repeat (first | apply qk | apply qj | apply ql)); exact HO_21.out) hb); have n1_ := Aside0.mk (blk_below (g := gb281) (o := .cells #[.int .i64 a1_0, .int .i64 a1_1, .int .i64 a1_2, .int .i64 a1_3] 35 (0, 0)) (by (with_reducible repeat (first | refine qa ?_ _ | refine qb ?_ | refine qc ?_ _)); exact BK281.out) hb); have n2_ := Aside0.mk (blk_below (g := gb282) (o := .cells #[.int .i64 a3] 3 (0, 0)) (by (with_reducible repeat (first | refine qa ?_ _ | refine qb ?_ | refine qc ?_ _)); exact BK282.out) hb); have n3_ := Aside0.mk (blk_below (g := gb283) (o := .cells #[.int .i64 a4] 3 (0, 0)) (by (with_reducible repeat (first | refine qa ?_ _ | refine qb ?_ | refine qc ?_ _)); exact BK283.out) hb); have n4_ := Aside0.mk (below_step (by repeat (first | (with_reducible first | exact HB.out | apply qg | apply qe | apply qf | refine qd ?_ GE281.out | refine qd ?_ GE282.out | refine qd ?_ GE283.out) | exact HB.out)) hb); clear HO_21; clear BK281; clear BK282; clear BK283; clear HB; have HO_21 := n0_; have BK281 := n1_; have BK282 := n2_; have BK283 := n3_; have HB := n4_; clear n0_ n1_ n2_ n3_ n4_; (try clear hb); (try clear hb2); (try clear hk); (try clear hi); obtain ⟨Ao109, co109, eo109⟩ := Kd.R_slice HO_21.out; subst eo109) | ((with_reducible refine gate_callee (f := 25) rfl ?_); refine goesL_ (some 217) rfl rfl Try.func25 (by kernel_rfl) rfl #[.slice Ao109 t295.length co109, .int .i64 x202_3] rfl (by (try simp only [List.map_toArray, List.map_cons, List.map_nil]); first | done | rfl | (simp only [List.length_drop, List.length_take]; rfl)) ?_; (with_reducible refine (slices_Contains_int_int.calls k3 _ _ t295 x202_3 t331 _ ?side1 ?side2 A106.out).mono ?_); (case side1 => repeat (first | exact (Kd.R_reads' HO_21.out).2.2 | (with_reducible refine Kd.C_alloc ?_ _) | (with_reducible refine Kd.C_drewN ?_ _) | (with_reducible refine Kd.C_drew ?_))); (case side2 => exact (Kd.R_reads' HO_21.out).2.1); rintro e w' ⟨rfl, ⟨nd, rfl⟩⟩; refine ⟨_, rfl, ?_⟩))
                          go_ret
                          exact ⟨by first | rfl | (simp [errW_none, errW_some] <;> rfl) | (simp [*, errW_none, errW_some] <;> rfl), by repeat (first | (with_reducible first | exact HB.out | apply qg | apply qe | apply qf | refine qd ?_ GE281.out | refine qd ?_ GE282.out | refine qd ?_ GE283.out) | exact HB.out)⟩
                        · rw [if_neg c107] at H
                          have c107b0 : ((decide ((wrap64 (t329 + t330)) > 0)) != t331) = false := by first | exact Bool.eq_false_iff.mpr c107 | simpa using c107
                          (try (have c107b1 : decide ((decide ((wrap64 (t329 + t330)) > 0)) = t331) = true := by simpa using c107))
                          (try (have c107b2 : ((decide ((wrap64 (t329 + t330)) > 0)) == t331) = true := by simpa using c107))
                          clear c107
                          have H' := Aside0.mk H
                          clear H
                          go_wp2_with (first | (go_at_call 22; (with_reducible refine (mootlaw4_moved_c32.calls _ _ l0 x202_3  t329 t330 _ ?side1 ?side2 A105.out).mono ?_); (case side1 => repeat (first | exact (Kd.C_below HR0.out HB.out) | (with_reducible refine Kd.C_alloc ?_ _) | (with_reducible refine Kd.C_drewN ?_ _) | (with_reducible refine Kd.C_drew ?_))); (case side2 => exact HC0.out); rintro e w110 ⟨rfl, hb⟩; have n0_ := Aside0.mk (Kd.R_below (by (with_reducible repeat (first | apply qk | apply qj | apply ql)); exact HO_21.out) hb); have n1_ := Aside0.mk (blk_below (g := gb281) (o := .cells #[.int .i64 a1_0, .int .i64 a1_1, .int .i64 a1_2, .int .i64 a1_3] 35 (0, 0)) (by (with_reducible repeat (first | refine qa ?_ _ | refine qb ?_ | refine qc ?_ _)); exact BK281.out) hb); have n2_ := Aside0.mk (blk_below (g := gb282) (o := .cells #[.int .i64 a3] 3 (0, 0)) (by (with_reducible repeat (first | refine qa ?_ _ | refine qb ?_ | refine qc ?_ _)); exact BK282.out) hb); have n3_ := Aside0.mk (blk_below (g := gb283) (o := .cells #[.int .i64 a4] 3 (0, 0)) (by (with_reducible repeat (first | refine qa ?_ _ | refine qb ?_ | refine qc ?_ _)); exact BK283.out) hb); have n4_ := Aside0.mk (below_step (by repeat (first | (with_reducible first | exact HB.out | apply qg | apply qe | apply qf | refine qd ?_ GE281.out | refine qd ?_ GE282.out | refine qd ?_ GE283.out) | exact HB.out)) hb); clear HO_21; clear BK281; clear BK282; clear BK283; clear HB; have HO_21 := n0_; have BK281 := n1_; have BK282 := n2_; have BK283 := n3_; have HB := n4_; clear n0_ n1_ n2_ n3_ n4_; (try clear hb); (try clear hb2); (try clear hk); (try clear hi); obtain ⟨Ao111, co111, eo111⟩ := Kd.R_slice HO_21.out; subst eo111) | ((with_reducible refine gate_callee (f := 25) rfl ?_); refine goesL_ (some 217) rfl rfl Try.func25 (by kernel_rfl) rfl #[.slice Ao111 t295.length co111, .int .i64 x202_3] rfl (by (try simp only [List.map_toArray, List.map_cons, List.map_nil]); first | done | rfl | (simp only [List.length_drop, List.length_take]; rfl)) ?_; (with_reducible refine (slices_Contains_int_int.calls k3 _ _ t295 x202_3 t331 _ ?side1 ?side2 A106.out).mono ?_); (case side1 => repeat (first | exact (Kd.R_reads' HO_21.out).2.2 | (with_reducible refine Kd.C_alloc ?_ _) | (with_reducible refine Kd.C_drewN ?_ _) | (with_reducible refine Kd.C_drew ?_))); (case side2 => exact (Kd.R_reads' HO_21.out).2.1); rintro e w' ⟨rfl, ⟨nd, rfl⟩⟩; refine ⟨_, rfl, ?_⟩))
                          go_roundg k3
                          case measure => have := HJ16.out; have := HJ72.out; have := HK3.out; omega
                          case rel => exact ⟨(wrap64 (x202_3 + 1)), (by first | rfl | (simp; done) | (simp [*]; done)), H', ⟨by have := HJ16.out; have := HJ72.out; have := HK3.out; omega⟩, ⟨by (with_reducible repeat (first | apply qk | apply qj | apply ql)); exact HO_21.out⟩, ⟨by (with_reducible repeat (first | refine qa ?_ _ | refine qb ?_ | refine qc ?_ _)); exact BK281.out⟩, ⟨by (with_reducible repeat (first | refine qa ?_ _ | refine qb ?_ | refine qc ?_ _)); exact BK282.out⟩, ⟨by (with_reducible repeat (first | refine qa ?_ _ | refine qb ?_ | refine qc ?_ _)); exact BK283.out⟩, ⟨by repeat (first | (with_reducible first | exact HB.out | apply qg | apply qe | apply qf | refine qd ?_ GE281.out | refine qd ?_ GE282.out | refine qd ?_ GE283.out) | exact HB.out)⟩⟩
                      · rw [if_neg c104] at H
                        have c104b0 : decide (x202_3 < 100) = false := decide_eq_false c104
                        clear c104
                        have HC112 := Aside0.mk H
                        clear H
                        go_upto_region 28 with (fail)
                        go_cut [231] (fun v231 wc => ∃ (kq : Nat) (x231_111 : Bool), v231 = .bool x231_111 ∧ Aside0 (mootlaw4_LedgerTells.j6 kq l0 a2 t290 t291 t292 t293 t294 x231_111 a3 a4 = some r) ∧ Aside0 (kq ≤ k3) ∧ Aside0 (wc.heap[gb281]? = some (.cells #[.int .i64 a1_0, .int .i64 a1_1, .int .i64 a1_2, .int .i64 a1_3] 35 (0, 0))) ∧ Aside0 (wc.heap[gb282]? = some (.cells #[.int .i64 a3] 3 (0, 0))) ∧ Aside0 (wc.heap[gb283]? = some (.cells #[.int .i64 a4] 3 (0, 0))) ∧ Aside0 (Below w.heap.size w wc))
                        case first => as_aux_lemma =>
                          have H := HC112.out
                          clear HC112
                          replace H := Option.bind_eq_some_iff.mp H
                          obtain ⟨t332, A1130, H⟩ := H
                          replace H : (if t332 = true then ((slices_Clone_int_int.f t295).bind fun t333 => ((slices_Compact_int_int.f t333).bind fun t336 => (mootlaw4_LedgerTells.j6 k3 l0 a2 t290 t291 t292 t293 t294 ((t336.length : Int) != (t295.length : Int)) a3 a4))) else (mootlaw4_LedgerTells.j6 k3 l0 a2 t290 t291 t292 t293 t294 true a3 a4)) = some r := H
                          have A113 := Aside0.mk A1130
                          clear A1130
                          by_cases c114 : t332 = true
                          · subst c114
                            have H1 : ((slices_Clone_int_int.f t295).bind fun t333 => ((slices_Compact_int_int.f t333).bind fun t336 => (mootlaw4_LedgerTells.j6 k3 l0 a2 t290 t291 t292 t293 t294 ((t336.length : Int) != (t295.length : Int)) a3 a4))) = some r := by rw [if_pos rfl] at H; exact H
                            clear H
                            have H := H1
                            clear H1
                            replace H := Option.bind_eq_some_iff.mp H
                            obtain ⟨t333, A1150, H⟩ := H
                            replace H : ((slices_Compact_int_int.f t333).bind fun t336 => (mootlaw4_LedgerTells.j6 k3 l0 a2 t290 t291 t292 t293 t294 ((t336.length : Int) != (t295.length : Int)) a3 a4)) = some r := H
                            have A115 := Aside0.mk A1150
                            clear A1150
                            replace H := Option.bind_eq_some_iff.mp H
                            obtain ⟨t336, A1160, H⟩ := H
                            replace H : (mootlaw4_LedgerTells.j6 k3 l0 a2 t290 t291 t292 t293 t294 ((t336.length : Int) != (t295.length : Int)) a3 a4) = some r := H
                            have A116 := Aside0.mk A1160
                            clear A1160
                            have H' := Aside0.mk H
                            clear H
                            obtain ⟨Ao117, co117, eo117⟩ := Kd.R_slice HO_21.out
                            subst eo117
                            go_wp2_with (first | ((with_reducible refine gate_callee (f := 33) rfl ?_); refine goesL_ (some 221) rfl rfl Try.func33 (by kernel_rfl) rfl #[.slice Ao117 t295.length co117] rfl (by (try simp only [List.map_toArray, List.map_cons, List.map_nil]); first | done | rfl | (simp only [List.length_drop, List.length_take]; rfl)) ?_; (with_reducible refine (slices_IsSorted_int_int.calls k3 _ _ t295 true _ ?side1 ?side2 A113.out).mono ?_); (case side1 => repeat (first | exact (Kd.R_reads' HO_21.out).2.2 | (with_reducible refine Kd.C_alloc ?_ _) | (with_reducible refine Kd.C_drewN ?_ _) | (with_reducible refine Kd.C_drew ?_))); (case side2 => exact (Kd.R_reads' HO_21.out).2.1); rintro e w' ⟨rfl, ⟨nd, rfl⟩⟩; refine ⟨_, rfl, ?_⟩) | (go_at_call 35; (with_reducible refine (slices_Clone_int_int.calls _ _ t295 t333 _ ?side1 ?side2 A115.out).mono ?_); (case side1 => repeat (first | exact (Kd.R_reads' HO_21.out).2.2 | (with_reducible refine Kd.C_alloc ?_ _) | (with_reducible refine Kd.C_drewN ?_ _) | (with_reducible refine Kd.C_drew ?_))); (case side2 => exact (Kd.R_reads' HO_21.out).2.1); rintro e w118 ⟨v334, rfl, ho0, hb⟩; have n0_ := Aside0.mk (Kd.R_elder' (by (with_reducible repeat (first | apply qk | apply qj | apply ql)); exact HO_21.out) (Kd.R_base ho0) hb); have n1_ := Aside0.mk (Kd.R_lower (Kd.R_newB (Kd.R_newB (Kd.R_new' ho0 (Kd.R_lt (by (with_reducible repeat (first | apply qk | apply qj | apply ql)); exact HO_21.out))) (g := gb282) (o := .cells #[.int .i64 a3] 3 (0, 0)) (by (with_reducible repeat (first | refine qa ?_ _ | refine qb ?_ | refine qc ?_ _)); exact BK282.out)) (g := gb283) (o := .cells #[.int .i64 a4] 3 (0, 0)) (by (with_reducible repeat (first | refine qa ?_ _ | refine qb ?_ | refine qc ?_ _)); exact BK283.out)) (below_size (by repeat (first | (with_reducible first | exact HB.out | apply qg | apply qe | apply qf | refine qd ?_ GE281.out | refine qd ?_ GE282.out | refine qd ?_ GE283.out) | exact HB.out)))); have n2_ := Aside0.mk (blk_below (g := gb281) (o := .cells #[.int .i64 a1_0, .int .i64 a1_1, .int .i64 a1_2, .int .i64 a1_3] 35 (0, 0)) (by (with_reducible repeat (first | refine qa ?_ _ | refine qb ?_ | refine qc ?_ _)); exact BK281.out) hb); have n3_ := Aside0.mk (blk_below (g := gb282) (o := .cells #[.int .i64 a3] 3 (0, 0)) (by (with_reducible repeat (first | refine qa ?_ _ | refine qb ?_ | refine qc ?_ _)); exact BK282.out) hb); have n4_ := Aside0.mk (blk_below (g := gb283) (o := .cells #[.int .i64 a4] 3 (0, 0)) (by (with_reducible repeat (first | refine qa ?_ _ | refine qb ?_ | refine qc ?_ _)); exact BK283.out) hb); have n5_ := Aside0.mk (below_step (by repeat (first | (with_reducible first | exact HB.out | apply qg | apply qe | apply qf | refine qd ?_ GE281.out | refine qd ?_ GE282.out | refine qd ?_ GE283.out) | exact HB.out)) hb); clear HO_21; clear BK281; clear BK282; clear BK283; clear HB; have HO_21 := n0_; have HO335 := n1_; have BK281 := n2_; have BK282 := n3_; have BK283 := n4_; have HB := n5_; clear n0_ n1_ n2_ n3_ n4_ n5_; (try clear hb); (try clear hb2); (try clear hk); (try clear hi); (try clear ho0); obtain ⟨Ao119, co119, eo119⟩ := Kd.R_slice HO335.out; subst eo119) | (go_at_call 34; (with_reducible refine (slices_Compact_int_int.calls (fun k_ => some k_ = (.slice Ao119 t333.length co119 : Value).ownBlock) (.slice Ao119 t333.length co119) t333 t336 w _ ?side1 ?side2 A116.out).mono ?_); (case side1 => repeat (first | (with_reducible first | exact HB.out | apply qg | apply qe | apply qf | refine qd ?_ GE281.out | refine qd ?_ GE282.out | refine qd ?_ GE283.out) | exact HB.out)); (case side2 => exact Kd.R_tight rfl HO335.out); rintro e w120 ⟨v337, rfl, ho0, hb, hkp⟩; have n0_ := Aside0.mk (Kd.R_mono (ok' := fun k_ => k_ ≠ gb282 ∧ k_ ≠ gb283 ∧ some k_ ≠ (v337 : Value).ownBlock) (Kd.R_keptB (HO_21.out) hkp (fun k_ hk_ hs_ => (hk_.2) hs_)) (fun k_ hk_ => ⟨hk_.1.1.1, hk_.1.1.2, fun e_ => Or.elim (ho0.1 k_ e_.symm) (fun hs_ => hk_.2.1 hs_) (fun hn_ => Nat.not_le.2 hk_.2.2 hn_)⟩)); have n1_ := Aside0.mk (blk_kept (by (with_reducible repeat (first | refine qa ?_ _ | refine qb ?_ | refine qc ?_ _)); exact BK281.out) hkp (fun hs_ => (fun e_ => (Kd.R_ne HO335.out BK281.out (by decide)) e_) hs_)); have n2_ := Aside0.mk (blk_kept (by (with_reducible repeat (first | refine qa ?_ _ | refine qb ?_ | refine qc ?_ _)); exact BK282.out) hkp (fun hs_ => (fun e_ => (Kd.R_away HO335.out (fun _ hk => hk.1.2)) e_) hs_)); have n3_ := Aside0.mk (blk_kept (by (with_reducible repeat (first | refine qa ?_ _ | refine qb ?_ | refine qc ?_ _)); exact BK283.out) hkp (fun hs_ => (fun e_ => (Kd.R_away HO335.out (fun _ hk => hk.2)) e_) hs_)); have n4_ := Aside0.mk (Kd.R_mono (ok' := fun k_ => some k_ ≠ (.slice Ao117 t295.length co117 : Value).ownBlock ∧ k_ ≠ gb282 ∧ k_ ≠ gb283) ho0 (fun k_ hk_ => ⟨Or.elim hk_ (fun hs_ => fun e_ => (((HO_21.out).1 k_ e_.symm).2) hs_) (fun hn_ => (Kd.fresh' (Kd.R_lt (by (with_reducible repeat (first | apply qk | apply qj | apply ql)); exact HO_21.out)) k_ hn_)), Or.elim hk_ (fun hs_ => fun e_ => (Kd.R_away HO335.out (fun _ hk => hk.1.2)) (by rw [← e_]; exact hs_)) (fun hn_ => (Kd.freshB (g := gb282) (o := .cells #[.int .i64 a3] 3 (0, 0)) (by (with_reducible repeat (first | refine qa ?_ _ | refine qb ?_ | refine qc ?_ _)); exact BK282.out) k_ hn_)), Or.elim hk_ (fun hs_ => fun e_ => (Kd.R_away HO335.out (fun _ hk => hk.2)) (by rw [← e_]; exact hs_)) (fun hn_ => (Kd.freshB (g := gb283) (o := .cells #[.int .i64 a4] 3 (0, 0)) (by (with_reducible repeat (first | refine qa ?_ _ | refine qb ?_ | refine qc ?_ _)); exact BK283.out) k_ hn_))⟩)); have n5_ := Aside0.mk (hb); clear HO_21; clear BK281; clear BK282; clear BK283; clear HB; clear HO335; have HO_21 := n0_; have BK281 := n1_; have BK282 := n2_; have BK283 := n3_; have HO338 := n4_; have HB := n5_; clear n0_ n1_ n2_ n3_ n4_ n5_; (try clear hb); (try clear hkp); (try clear ho0); obtain ⟨Ao121, co121, eo121⟩ := Kd.R_slice HO338.out; subst eo121))
                            go_meet
                            case rel => exact ⟨_, (((t336.length : Int) != (t295.length : Int))), (by first | rfl | (simp; done) | (simp [*]; done)), H', ⟨by have := HJ16.out; have := HJ72.out; have := HK3.out; first | omega | exact Nat.le_refl _⟩, ⟨by (with_reducible repeat (first | refine qa ?_ _ | refine qb ?_ | refine qc ?_ _)); exact BK281.out⟩, ⟨by (with_reducible repeat (first | refine qa ?_ _ | refine qb ?_ | refine qc ?_ _)); exact BK282.out⟩, ⟨by (with_reducible repeat (first | refine qa ?_ _ | refine qb ?_ | refine qc ?_ _)); exact BK283.out⟩, ⟨by repeat (first | (with_reducible first | exact HB.out | apply qg | apply qe | apply qf | refine qd ?_ GE281.out | refine qd ?_ GE282.out | refine qd ?_ GE283.out) | exact HB.out)⟩⟩
                          · replace c114 := Bool.eq_false_iff.mpr c114
                            subst c114
                            have H1 : (mootlaw4_LedgerTells.j6 k3 l0 a2 t290 t291 t292 t293 t294 true a3 a4) = some r := by rw [if_neg (show ¬ (false = true) by decide)] at H; exact H
                            clear H
                            have H := H1
                            clear H1
                            have H' := Aside0.mk H
                            clear H
                            obtain ⟨Ao122, co122, eo122⟩ := Kd.R_slice HO_21.out
                            subst eo122
                            go_wp2_with (first | ((with_reducible refine gate_callee (f := 33) rfl ?_); refine goesL_ (some 221) rfl rfl Try.func33 (by kernel_rfl) rfl #[.slice Ao122 t295.length co122] rfl (by (try simp only [List.map_toArray, List.map_cons, List.map_nil]); first | done | rfl | (simp only [List.length_drop, List.length_take]; rfl)) ?_; (with_reducible refine (slices_IsSorted_int_int.calls k3 _ _ t295 false _ ?side1 ?side2 A113.out).mono ?_); (case side1 => repeat (first | exact (Kd.R_reads' HO_21.out).2.2 | (with_reducible refine Kd.C_alloc ?_ _) | (with_reducible refine Kd.C_drewN ?_ _) | (with_reducible refine Kd.C_drew ?_))); (case side2 => exact (Kd.R_reads' HO_21.out).2.1); rintro e w' ⟨rfl, ⟨nd, rfl⟩⟩; refine ⟨_, rfl, ?_⟩))
                            go_meet
                            case rel => exact ⟨_, (true), (by first | rfl | (simp; done) | (simp [*]; done)), H', ⟨by have := HJ16.out; have := HJ72.out; have := HK3.out; first | omega | exact Nat.le_refl _⟩, ⟨by (with_reducible repeat (first | refine qa ?_ _ | refine qb ?_ | refine qc ?_ _)); exact BK281.out⟩, ⟨by (with_reducible repeat (first | refine qa ?_ _ | refine qb ?_ | refine qc ?_ _)); exact BK282.out⟩, ⟨by (with_reducible repeat (first | refine qa ?_ _ | refine qb ?_ | refine qc ?_ _)); exact BK283.out⟩, ⟨by repeat (first | (with_reducible first | exact HB.out | apply qg | apply qe | apply qf | refine qd ?_ GE281.out | refine qd ?_ GE282.out | refine qd ?_ GE283.out) | exact HB.out)⟩⟩
                        case rest => as_aux_lemma =>
                          clear HC112
                          try clear c1
                          try clear c2
                          try clear p2
                          try clear c3
                          try clear p3
                          try clear q3
                          try clear hx3
                          try clear c4
                          try clear p6
                          try clear c7
                          try clear c8
                          try clear c9
                          try clear c10
                          try clear c11
                          try clear c18
                          try clear c21
                          try clear c25
                          try clear p31
                          try clear q31
                          try clear hx31
                          try clear c32
                          try clear p32
                          try clear q32
                          try clear hx32
                          try clear c33
                          try clear p64
                          try clear c76
                          try clear c80
                          try clear c82
                          try clear c82b0
                          try clear c83
                          try clear c83b0
                          try clear c84
                          try clear c96
                          try clear c96b0
                          try clear c96b1
                          try clear c97
                          try clear c97b0
                          try clear c97b1
                          try clear c99
                          try clear c103
                          try clear c104
                          try clear c104b0
                          try clear c107
                          try clear c107b0
                          try clear c107b1
                          try clear c107b2
                          try clear c114
                          try clear hfz25_0
                          try clear hfz25_1
                          try clear hfz25_2
                          try clear hfz25_3
                          try clear hfz28_0
                          try clear hfz30_0
                          try clear hfz31_0
                          try clear hfz34_0
                          try clear hx318_0
                          try clear hx318_1
                          try clear hx318_2
                          try clear hx318_3
                          try clear hx319_0
                          try clear hx319_1
                          try clear hx319_2
                          try clear hx319_3
                          try clear hx320_0
                          try clear hx320_1
                          try clear hx320_2
                          try clear hx320_3
                          try clear p2
                          try clear p3
                          try clear p31
                          try clear p318
                          try clear p319
                          try clear p32
                          try clear p320
                          try clear p6
                          try clear p64
                          try clear q3
                          try clear q31
                          try clear q318
                          try clear q319
                          try clear q32
                          try clear q320
                          obtain ⟨kq, x231_111, rfl, HA, HJ111, BK281, BK282, BK283, HB⟩ := hcut
                          cases kq with
                          | zero => exact absurd HA.out (by simp [mootlaw4_LedgerTells.j6])
                          | succ kj111 =>
                            have H := HA.out
                            clear HA
                            simp only [mootlaw4_LedgerTells.j6] at H
                            by_cases c123 : x231_111 = true
                            · subst c123
                              have H1 : (some false) = some r := by rw [if_pos rfl] at H; exact H
                              clear H
                              have H := H1
                              clear H1
                              obtain rfl := Option.some.inj H
                              go_wp2
                              go_ret
                              exact ⟨by first | rfl | (simp [errW_none, errW_some] <;> rfl) | (simp [*, errW_none, errW_some] <;> rfl), by repeat (first | (with_reducible first | exact HB.out | apply qg | apply qe | apply qf | refine qd ?_ GE281.out | refine qd ?_ GE282.out | refine qd ?_ GE283.out) | exact HB.out)⟩
                            · replace c123 := Bool.eq_false_iff.mpr c123
                              subst c123
                              have H1 : (if a2 < 0 then (mootlaw4_LedgerTells.j7 kj111 l0 a2 t290 t291 t292 t293 t294 true a3 a4) else (mootlaw4_LedgerTells.j7 kj111 l0 a2 t290 t291 t292 t293 t294 (decide (a2 > 99)) a3 a4)) = some r := by rw [if_neg (show ¬ (false = true) by decide)] at H; exact H
                              clear H
                              have H := H1
                              clear H1
                              have HC124 := Aside0.mk H
                              clear H
                              go_upto_region 30 with (fail)
                              go_cut [237] (fun v237 wc => ∃ (kq : Nat) (x237_123 : Bool), v237 = .bool x237_123 ∧ Aside0 (mootlaw4_LedgerTells.j7 kq l0 a2 t290 t291 t292 t293 t294 x237_123 a3 a4 = some r) ∧ Aside0 (kq ≤ kj111) ∧ Aside0 (wc.heap[gb281]? = some (.cells #[.int .i64 a1_0, .int .i64 a1_1, .int .i64 a1_2, .int .i64 a1_3] 35 (0, 0))) ∧ Aside0 (wc.heap[gb282]? = some (.cells #[.int .i64 a3] 3 (0, 0))) ∧ Aside0 (wc.heap[gb283]? = some (.cells #[.int .i64 a4] 3 (0, 0))) ∧ Aside0 (Below w.heap.size w wc))
                              case first =>
                                have H := HC124.out
                                clear HC124
                                by_cases c125 : a2 < 0
                                · rw [if_pos c125] at H
                                  have c125b0 : decide (a2 < 0) = true := decide_eq_true c125
                                  clear c125
                                  (first | rw [c125b0] | (simp only [i64_w, i32_w]; rw [c125b0]) | skip)
                                  have H' := Aside0.mk H
                                  clear H
                                  go_wp2
                                  go_meet
                                  case rel => exact ⟨_, (true), (by first | rfl | (simp; done) | (simp [*]; done)), H', ⟨by have := HJ16.out; have := HJ72.out; have := HK3.out; have := HJ111.out; first | omega | exact Nat.le_refl _⟩, ⟨by (with_reducible repeat (first | refine qa ?_ _ | refine qb ?_ | refine qc ?_ _)); exact BK281.out⟩, ⟨by (with_reducible repeat (first | refine qa ?_ _ | refine qb ?_ | refine qc ?_ _)); exact BK282.out⟩, ⟨by (with_reducible repeat (first | refine qa ?_ _ | refine qb ?_ | refine qc ?_ _)); exact BK283.out⟩, ⟨by repeat (first | (with_reducible first | exact HB.out | apply qg | apply qe | apply qf | refine qd ?_ GE281.out | refine qd ?_ GE282.out | refine qd ?_ GE283.out) | exact HB.out)⟩⟩
                                · rw [if_neg c125] at H
                                  have c125b0 : decide (a2 < 0) = false := decide_eq_false c125
                                  clear c125
                                  (first | rw [c125b0] | (simp only [i64_w, i32_w]; rw [c125b0]) | skip)
                                  have H' := Aside0.mk H
                                  clear H
                                  go_wp2
                                  go_meet
                                  case rel => exact ⟨_, (decide (a2 > 99)), (by first | rfl | (simp; done) | (simp [*]; done)), H', ⟨by have := HJ16.out; have := HJ72.out; have := HK3.out; have := HJ111.out; first | omega | exact Nat.le_refl _⟩, ⟨by (with_reducible repeat (first | refine qa ?_ _ | refine qb ?_ | refine qc ?_ _)); exact BK281.out⟩, ⟨by (with_reducible repeat (first | refine qa ?_ _ | refine qb ?_ | refine qc ?_ _)); exact BK282.out⟩, ⟨by (with_reducible repeat (first | refine qa ?_ _ | refine qb ?_ | refine qc ?_ _)); exact BK283.out⟩, ⟨by repeat (first | (with_reducible first | exact HB.out | apply qg | apply qe | apply qf | refine qd ?_ GE281.out | refine qd ?_ GE282.out | refine qd ?_ GE283.out) | exact HB.out)⟩⟩
                              case rest => as_aux_lemma =>
                                clear HC124
                                try clear c1
                                try clear c2
                                try clear p2
                                try clear c3
                                try clear p3
                                try clear q3
                                try clear hx3
                                try clear c4
                                try clear p6
                                try clear c7
                                try clear c8
                                try clear c9
                                try clear c10
                                try clear c11
                                try clear c12
                                try clear c18
                                try clear c21
                                try clear c25
                                try clear p31
                                try clear q31
                                try clear hx31
                                try clear c32
                                try clear p32
                                try clear q32
                                try clear hx32
                                try clear c33
                                try clear p64
                                try clear c76
                                try clear c80
                                try clear c82
                                try clear c82b0
                                try clear c83
                                try clear c83b0
                                try clear c84
                                try clear c96
                                try clear c96b0
                                try clear c96b1
                                try clear c97
                                try clear c97b0
                                try clear c97b1
                                try clear c99
                                try clear c103
                                try clear c104
                                try clear c104b0
                                try clear c107
                                try clear c107b0
                                try clear c107b1
                                try clear c107b2
                                try clear c114
                                try clear c123
                                try clear c125
                                try clear c125b0
                                try clear hfz25_0
                                try clear hfz25_1
                                try clear hfz25_2
                                try clear hfz25_3
                                try clear hfz28_0
                                try clear hfz30_0
                                try clear hfz31_0
                                try clear hfz34_0
                                try clear hx318_0
                                try clear hx318_1
                                try clear hx318_2
                                try clear hx318_3
                                try clear hx319_0
                                try clear hx319_1
                                try clear hx319_2
                                try clear hx319_3
                                try clear hx320_0
                                try clear hx320_1
                                try clear hx320_2
                                try clear hx320_3
                                try clear p2
                                try clear p3
                                try clear p31
                                try clear p318
                                try clear p319
                                try clear p32
                                try clear p320
                                try clear p6
                                try clear p64
                                try clear q3
                                try clear q31
                                try clear q318
                                try clear q319
                                try clear q32
                                try clear q320
                                obtain ⟨kq, x237_123, rfl, HA, HJ123, BK281, BK282, BK283, HB⟩ := hcut
                                cases kq with
                                | zero => exact absurd HA.out (by simp [mootlaw4_LedgerTells.j7])
                                | succ kj123 =>
                                  have H := HA.out
                                  clear HA
                                  simp only [mootlaw4_LedgerTells.j7] at H
                                  by_cases c126 : x237_123 = true
                                  · subst c126
                                    have H1 : (if t291 = 1 then (if t294 = 1 then (some ((wrap64 ((wrap64 (t290 + t292)) + t293)) == 0)) else (some false)) else (some false)) = some r := by rw [if_pos rfl] at H; exact H
                                    clear H
                                    have H := H1
                                    clear H1
                                    by_cases c127 : t291 = 1
                                    · rw [if_pos c127] at H
                                      have c127b0 : (t291 == 1) = true := beq_iff_eq.mpr c127
                                      have c127b1 : (t291 != 1) = false := bne_eq_false_iff_eq.mpr c127
                                      clear c127
                                      by_cases c128 : t294 = 1
                                      · rw [if_pos c128] at H
                                        have c128b0 : (t294 == 1) = true := beq_iff_eq.mpr c128
                                        have c128b1 : (t294 != 1) = false := bne_eq_false_iff_eq.mpr c128
                                        clear c128
                                        obtain rfl := Option.some.inj H
                                        go_wp2
                                        go_ret
                                        exact ⟨by first | rfl | (simp [errW_none, errW_some] <;> rfl) | (simp [*, errW_none, errW_some] <;> rfl), by repeat (first | (with_reducible first | exact HB.out | apply qg | apply qe | apply qf | refine qd ?_ GE281.out | refine qd ?_ GE282.out | refine qd ?_ GE283.out) | exact HB.out)⟩
                                      · rw [if_neg c128] at H
                                        have c128b0 : (t294 == 1) = false := beq_eq_false_iff_ne.mpr c128
                                        have c128b1 : (t294 != 1) = true := bne_iff_ne.mpr c128
                                        obtain rfl := Option.some.inj H
                                        go_wp2
                                        go_ret
                                        exact ⟨by first | rfl | (simp [errW_none, errW_some] <;> rfl) | (simp [*, errW_none, errW_some] <;> rfl), by repeat (first | (with_reducible first | exact HB.out | apply qg | apply qe | apply qf | refine qd ?_ GE281.out | refine qd ?_ GE282.out | refine qd ?_ GE283.out) | exact HB.out)⟩
                                    · rw [if_neg c127] at H
                                      have c127b0 : (t291 == 1) = false := beq_eq_false_iff_ne.mpr c127
                                      have c127b1 : (t291 != 1) = true := bne_iff_ne.mpr c127
                                      obtain rfl := Option.some.inj H
                                      go_wp2
                                      go_ret
                                      exact ⟨by first | rfl | (simp [errW_none, errW_some] <;> rfl) | (simp [*, errW_none, errW_some] <;> rfl), by repeat (first | (with_reducible first | exact HB.out | apply qg | apply qe | apply qf | refine qd ?_ GE281.out | refine qd ?_ GE282.out | refine qd ?_ GE283.out) | exact HB.out)⟩
                                  · as_aux_lemma =>
                                      replace c126 := Bool.eq_false_iff.mpr c126
                                      subst c126
                                      have H1 : ((mootlaw4_moved_c36.f l0 a2 a4).bind fun bt339 => ((mootlaw4_moved_c37.f l0 a2 a3 a4).bind fun bt341 => (if t291 = 0 then (if t290 = (wrap64 (bt339.1 - bt339.2)) then (if t294 = 0 then (if t292 = bt341.1 then (some (t293 == bt341.2)) else (some false)) else (some false)) else (some false)) else (some false)))) = some r := by rw [if_neg (show ¬ (false = true) by decide)] at H; exact H
                                      clear H
                                      have H := H1
                                      clear H1
                                      replace H := Option.bind_eq_some_iff.mp H
                                      obtain ⟨⟨t339, t340⟩, A1290, H⟩ := H
                                      replace H : ((mootlaw4_moved_c37.f l0 a2 a3 a4).bind fun bt341 => (if t291 = 0 then (if t290 = (wrap64 (t339 - t340)) then (if t294 = 0 then (if t292 = bt341.1 then (some (t293 == bt341.2)) else (some false)) else (some false)) else (some false)) else (some false))) = some r := H
                                      have A129 := Aside0.mk A1290
                                      clear A1290
                                      replace H := Option.bind_eq_some_iff.mp H
                                      obtain ⟨⟨t341, t342⟩, A1300, H⟩ := H
                                      replace H : (if t291 = 0 then (if t290 = (wrap64 (t339 - t340)) then (if t294 = 0 then (if t292 = t341 then (some (t293 == t342)) else (some false)) else (some false)) else (some false)) else (some false)) = some r := H
                                      have A130 := Aside0.mk A1300
                                      clear A1300
                                      by_cases c131 : t291 = 0
                                      · rw [if_pos c131] at H
                                        have c131b0 : (t291 == 0) = true := beq_iff_eq.mpr c131
                                        have c131b1 : (t291 != 0) = false := bne_eq_false_iff_eq.mpr c131
                                        clear c131
                                        by_cases c132 : t290 = (wrap64 (t339 - t340))
                                        · rw [if_pos c132] at H
                                          have c132b0 : (t290 == (wrap64 (t339 - t340))) = true := beq_iff_eq.mpr c132
                                          have c132b1 : (t290 != (wrap64 (t339 - t340))) = false := bne_eq_false_iff_eq.mpr c132
                                          clear c132
                                          by_cases c133 : t294 = 0
                                          · rw [if_pos c133] at H
                                            have c133b0 : (t294 == 0) = true := beq_iff_eq.mpr c133
                                            have c133b1 : (t294 != 0) = false := bne_eq_false_iff_eq.mpr c133
                                            clear c133
                                            by_cases c134 : t292 = t341
                                            · rw [if_pos c134] at H
                                              have c134b0 : (t292 == t341) = true := beq_iff_eq.mpr c134
                                              have c134b1 : (t292 != t341) = false := bne_eq_false_iff_eq.mpr c134
                                              clear c134
                                              obtain rfl := Option.some.inj H
                                              go_wp2_with (first | (go_at_call 22; (with_reducible refine (mootlaw4_moved_c36.calls _ _ l0 a2 gb283 a4 t339 t340 _ ?side1 ?side2 ?side3 A129.out).mono ?_); (case side1 => repeat (first | exact (Kd.C_below HR0.out HB.out) | (with_reducible refine Kd.C_alloc ?_ _) | (with_reducible refine Kd.C_drewN ?_ _) | (with_reducible refine Kd.C_drew ?_))); (case side2 => exact HC0.out); (case side3 => (with_reducible repeat (first | refine qa ?_ _ | refine qb ?_ | refine qc ?_ _)); exact BK283.out); rintro e w135 ⟨rfl, hb⟩; have n0_ := Aside0.mk (blk_below (g := gb281) (o := .cells #[.int .i64 a1_0, .int .i64 a1_1, .int .i64 a1_2, .int .i64 a1_3] 35 (0, 0)) (by (with_reducible repeat (first | refine qa ?_ _ | refine qb ?_ | refine qc ?_ _)); exact BK281.out) hb); have n1_ := Aside0.mk (blk_below (g := gb282) (o := .cells #[.int .i64 a3] 3 (0, 0)) (by (with_reducible repeat (first | refine qa ?_ _ | refine qb ?_ | refine qc ?_ _)); exact BK282.out) hb); have n2_ := Aside0.mk (blk_below (g := gb283) (o := .cells #[.int .i64 a4] 3 (0, 0)) (by (with_reducible repeat (first | refine qa ?_ _ | refine qb ?_ | refine qc ?_ _)); exact BK283.out) hb); have n3_ := Aside0.mk (below_step (by repeat (first | (with_reducible first | exact HB.out | apply qg | apply qe | apply qf | refine qd ?_ GE281.out | refine qd ?_ GE282.out | refine qd ?_ GE283.out) | exact HB.out)) hb); clear BK281; clear BK282; clear BK283; clear HB; have BK281 := n0_; have BK282 := n1_; have BK283 := n2_; have HB := n3_; clear n0_ n1_ n2_ n3_; (try clear hb); (try clear hb2); (try clear hk); (try clear hi)) | (go_at_call 22; (with_reducible refine (mootlaw4_moved_c37.calls _ _ l0 a2 gb282 a3 gb283 a4 t341 t342 _ ?side1 ?side2 ?side3 ?side4 A130.out).mono ?_); (case side1 => repeat (first | exact (Kd.C_below HR0.out HB.out) | (with_reducible refine Kd.C_alloc ?_ _) | (with_reducible refine Kd.C_drewN ?_ _) | (with_reducible refine Kd.C_drew ?_))); (case side2 => exact HC0.out); (case side3 => (with_reducible repeat (first | refine qa ?_ _ | refine qb ?_ | refine qc ?_ _)); exact BK282.out); (case side4 => (with_reducible repeat (first | refine qa ?_ _ | refine qb ?_ | refine qc ?_ _)); exact BK283.out); rintro e w136 ⟨rfl, hb⟩; have n0_ := Aside0.mk (blk_below (g := gb281) (o := .cells #[.int .i64 a1_0, .int .i64 a1_1, .int .i64 a1_2, .int .i64 a1_3] 35 (0, 0)) (by (with_reducible repeat (first | refine qa ?_ _ | refine qb ?_ | refine qc ?_ _)); exact BK281.out) hb); have n1_ := Aside0.mk (blk_below (g := gb282) (o := .cells #[.int .i64 a3] 3 (0, 0)) (by (with_reducible repeat (first | refine qa ?_ _ | refine qb ?_ | refine qc ?_ _)); exact BK282.out) hb); have n2_ := Aside0.mk (blk_below (g := gb283) (o := .cells #[.int .i64 a4] 3 (0, 0)) (by (with_reducible repeat (first | refine qa ?_ _ | refine qb ?_ | refine qc ?_ _)); exact BK283.out) hb); have n3_ := Aside0.mk (below_step (by repeat (first | (with_reducible first | exact HB.out | apply qg | apply qe | apply qf | refine qd ?_ GE281.out | refine qd ?_ GE282.out | refine qd ?_ GE283.out) | exact HB.out)) hb); clear BK281; clear BK282; clear BK283; clear HB; have BK281 := n0_; have BK282 := n1_; have BK283 := n2_; have HB := n3_; clear n0_ n1_ n2_ n3_; (try clear hb); (try clear hb2); (try clear hk); (try clear hi)))
                                              go_ret
                                              exact ⟨by first | rfl | (simp [errW_none, errW_some] <;> rfl) | (simp [*, errW_none, errW_some] <;> rfl), by repeat (first | (with_reducible first | exact HB.out | apply qg | apply qe | apply qf | refine qd ?_ GE281.out | refine qd ?_ GE282.out | refine qd ?_ GE283.out) | exact HB.out)⟩
                                            · rw [if_neg c134] at H
                                              have c134b0 : (t292 == t341) = false := beq_eq_false_iff_ne.mpr c134
                                              have c134b1 : (t292 != t341) = true := bne_iff_ne.mpr c134
                                              obtain rfl := Option.some.inj H
                                              go_wp2_with (first | (go_at_call 22; (with_reducible refine (mootlaw4_moved_c36.calls _ _ l0 a2 gb283 a4 t339 t340 _ ?side1 ?side2 ?side3 A129.out).mono ?_); (case side1 => repeat (first | exact (Kd.C_below HR0.out HB.out) | (with_reducible refine Kd.C_alloc ?_ _) | (with_reducible refine Kd.C_drewN ?_ _) | (with_reducible refine Kd.C_drew ?_))); (case side2 => exact HC0.out); (case side3 => (with_reducible repeat (first | refine qa ?_ _ | refine qb ?_ | refine qc ?_ _)); exact BK283.out); rintro e w137 ⟨rfl, hb⟩; have n0_ := Aside0.mk (blk_below (g := gb281) (o := .cells #[.int .i64 a1_0, .int .i64 a1_1, .int .i64 a1_2, .int .i64 a1_3] 35 (0, 0)) (by (with_reducible repeat (first | refine qa ?_ _ | refine qb ?_ | refine qc ?_ _)); exact BK281.out) hb); have n1_ := Aside0.mk (blk_below (g := gb282) (o := .cells #[.int .i64 a3] 3 (0, 0)) (by (with_reducible repeat (first | refine qa ?_ _ | refine qb ?_ | refine qc ?_ _)); exact BK282.out) hb); have n2_ := Aside0.mk (blk_below (g := gb283) (o := .cells #[.int .i64 a4] 3 (0, 0)) (by (with_reducible repeat (first | refine qa ?_ _ | refine qb ?_ | refine qc ?_ _)); exact BK283.out) hb); have n3_ := Aside0.mk (below_step (by repeat (first | (with_reducible first | exact HB.out | apply qg | apply qe | apply qf | refine qd ?_ GE281.out | refine qd ?_ GE282.out | refine qd ?_ GE283.out) | exact HB.out)) hb); clear BK281; clear BK282; clear BK283; clear HB; have BK281 := n0_; have BK282 := n1_; have BK283 := n2_; have HB := n3_; clear n0_ n1_ n2_ n3_; (try clear hb); (try clear hb2); (try clear hk); (try clear hi)) | (go_at_call 22; (with_reducible refine (mootlaw4_moved_c37.calls _ _ l0 a2 gb282 a3 gb283 a4 t341 t342 _ ?side1 ?side2 ?side3 ?side4 A130.out).mono ?_); (case side1 => repeat (first | exact (Kd.C_below HR0.out HB.out) | (with_reducible refine Kd.C_alloc ?_ _) | (with_reducible refine Kd.C_drewN ?_ _) | (with_reducible refine Kd.C_drew ?_))); (case side2 => exact HC0.out); (case side3 => (with_reducible repeat (first | refine qa ?_ _ | refine qb ?_ | refine qc ?_ _)); exact BK282.out); (case side4 => (with_reducible repeat (first | refine qa ?_ _ | refine qb ?_ | refine qc ?_ _)); exact BK283.out); rintro e w138 ⟨rfl, hb⟩; have n0_ := Aside0.mk (blk_below (g := gb281) (o := .cells #[.int .i64 a1_0, .int .i64 a1_1, .int .i64 a1_2, .int .i64 a1_3] 35 (0, 0)) (by (with_reducible repeat (first | refine qa ?_ _ | refine qb ?_ | refine qc ?_ _)); exact BK281.out) hb); have n1_ := Aside0.mk (blk_below (g := gb282) (o := .cells #[.int .i64 a3] 3 (0, 0)) (by (with_reducible repeat (first | refine qa ?_ _ | refine qb ?_ | refine qc ?_ _)); exact BK282.out) hb); have n2_ := Aside0.mk (blk_below (g := gb283) (o := .cells #[.int .i64 a4] 3 (0, 0)) (by (with_reducible repeat (first | refine qa ?_ _ | refine qb ?_ | refine qc ?_ _)); exact BK283.out) hb); have n3_ := Aside0.mk (below_step (by repeat (first | (with_reducible first | exact HB.out | apply qg | apply qe | apply qf | refine qd ?_ GE281.out | refine qd ?_ GE282.out | refine qd ?_ GE283.out) | exact HB.out)) hb); clear BK281; clear BK282; clear BK283; clear HB; have BK281 := n0_; have BK282 := n1_; have BK283 := n2_; have HB := n3_; clear n0_ n1_ n2_ n3_; (try clear hb); (try clear hb2); (try clear hk); (try clear hi)))
                                              go_ret
                                              exact ⟨by first | rfl | (simp [errW_none, errW_some] <;> rfl) | (simp [*, errW_none, errW_some] <;> rfl), by repeat (first | (with_reducible first | exact HB.out | apply qg | apply qe | apply qf | refine qd ?_ GE281.out | refine qd ?_ GE282.out | refine qd ?_ GE283.out) | exact HB.out)⟩
                                          · rw [if_neg c133] at H
                                            have c133b0 : (t294 == 0) = false := beq_eq_false_iff_ne.mpr c133
                                            have c133b1 : (t294 != 0) = true := bne_iff_ne.mpr c133
                                            obtain rfl := Option.some.inj H
                                            go_wp2_with (first | (go_at_call 22; (with_reducible refine (mootlaw4_moved_c36.calls _ _ l0 a2 gb283 a4 t339 t340 _ ?side1 ?side2 ?side3 A129.out).mono ?_); (case side1 => repeat (first | exact (Kd.C_below HR0.out HB.out) | (with_reducible refine Kd.C_alloc ?_ _) | (with_reducible refine Kd.C_drewN ?_ _) | (with_reducible refine Kd.C_drew ?_))); (case side2 => exact HC0.out); (case side3 => (with_reducible repeat (first | refine qa ?_ _ | refine qb ?_ | refine qc ?_ _)); exact BK283.out); rintro e w139 ⟨rfl, hb⟩; have n0_ := Aside0.mk (blk_below (g := gb281) (o := .cells #[.int .i64 a1_0, .int .i64 a1_1, .int .i64 a1_2, .int .i64 a1_3] 35 (0, 0)) (by (with_reducible repeat (first | refine qa ?_ _ | refine qb ?_ | refine qc ?_ _)); exact BK281.out) hb); have n1_ := Aside0.mk (blk_below (g := gb282) (o := .cells #[.int .i64 a3] 3 (0, 0)) (by (with_reducible repeat (first | refine qa ?_ _ | refine qb ?_ | refine qc ?_ _)); exact BK282.out) hb); have n2_ := Aside0.mk (blk_below (g := gb283) (o := .cells #[.int .i64 a4] 3 (0, 0)) (by (with_reducible repeat (first | refine qa ?_ _ | refine qb ?_ | refine qc ?_ _)); exact BK283.out) hb); have n3_ := Aside0.mk (below_step (by repeat (first | (with_reducible first | exact HB.out | apply qg | apply qe | apply qf | refine qd ?_ GE281.out | refine qd ?_ GE282.out | refine qd ?_ GE283.out) | exact HB.out)) hb); clear BK281; clear BK282; clear BK283; clear HB; have BK281 := n0_; have BK282 := n1_; have BK283 := n2_; have HB := n3_; clear n0_ n1_ n2_ n3_; (try clear hb); (try clear hb2); (try clear hk); (try clear hi)) | (go_at_call 22; (with_reducible refine (mootlaw4_moved_c37.calls _ _ l0 a2 gb282 a3 gb283 a4 t341 t342 _ ?side1 ?side2 ?side3 ?side4 A130.out).mono ?_); (case side1 => repeat (first | exact (Kd.C_below HR0.out HB.out) | (with_reducible refine Kd.C_alloc ?_ _) | (with_reducible refine Kd.C_drewN ?_ _) | (with_reducible refine Kd.C_drew ?_))); (case side2 => exact HC0.out); (case side3 => (with_reducible repeat (first | refine qa ?_ _ | refine qb ?_ | refine qc ?_ _)); exact BK282.out); (case side4 => (with_reducible repeat (first | refine qa ?_ _ | refine qb ?_ | refine qc ?_ _)); exact BK283.out); rintro e w140 ⟨rfl, hb⟩; have n0_ := Aside0.mk (blk_below (g := gb281) (o := .cells #[.int .i64 a1_0, .int .i64 a1_1, .int .i64 a1_2, .int .i64 a1_3] 35 (0, 0)) (by (with_reducible repeat (first | refine qa ?_ _ | refine qb ?_ | refine qc ?_ _)); exact BK281.out) hb); have n1_ := Aside0.mk (blk_below (g := gb282) (o := .cells #[.int .i64 a3] 3 (0, 0)) (by (with_reducible repeat (first | refine qa ?_ _ | refine qb ?_ | refine qc ?_ _)); exact BK282.out) hb); have n2_ := Aside0.mk (blk_below (g := gb283) (o := .cells #[.int .i64 a4] 3 (0, 0)) (by (with_reducible repeat (first | refine qa ?_ _ | refine qb ?_ | refine qc ?_ _)); exact BK283.out) hb); have n3_ := Aside0.mk (below_step (by repeat (first | (with_reducible first | exact HB.out | apply qg | apply qe | apply qf | refine qd ?_ GE281.out | refine qd ?_ GE282.out | refine qd ?_ GE283.out) | exact HB.out)) hb); clear BK281; clear BK282; clear BK283; clear HB; have BK281 := n0_; have BK282 := n1_; have BK283 := n2_; have HB := n3_; clear n0_ n1_ n2_ n3_; (try clear hb); (try clear hb2); (try clear hk); (try clear hi)))
                                            go_ret
                                            exact ⟨by first | rfl | (simp [errW_none, errW_some] <;> rfl) | (simp [*, errW_none, errW_some] <;> rfl), by repeat (first | (with_reducible first | exact HB.out | apply qg | apply qe | apply qf | refine qd ?_ GE281.out | refine qd ?_ GE282.out | refine qd ?_ GE283.out) | exact HB.out)⟩
                                        · rw [if_neg c132] at H
                                          have c132b0 : (t290 == (wrap64 (t339 - t340))) = false := beq_eq_false_iff_ne.mpr c132
                                          have c132b1 : (t290 != (wrap64 (t339 - t340))) = true := bne_iff_ne.mpr c132
                                          obtain rfl := Option.some.inj H
                                          go_wp2_with (first | (go_at_call 22; (with_reducible refine (mootlaw4_moved_c36.calls _ _ l0 a2 gb283 a4 t339 t340 _ ?side1 ?side2 ?side3 A129.out).mono ?_); (case side1 => repeat (first | exact (Kd.C_below HR0.out HB.out) | (with_reducible refine Kd.C_alloc ?_ _) | (with_reducible refine Kd.C_drewN ?_ _) | (with_reducible refine Kd.C_drew ?_))); (case side2 => exact HC0.out); (case side3 => (with_reducible repeat (first | refine qa ?_ _ | refine qb ?_ | refine qc ?_ _)); exact BK283.out); rintro e w141 ⟨rfl, hb⟩; have n0_ := Aside0.mk (blk_below (g := gb281) (o := .cells #[.int .i64 a1_0, .int .i64 a1_1, .int .i64 a1_2, .int .i64 a1_3] 35 (0, 0)) (by (with_reducible repeat (first | refine qa ?_ _ | refine qb ?_ | refine qc ?_ _)); exact BK281.out) hb); have n1_ := Aside0.mk (blk_below (g := gb282) (o := .cells #[.int .i64 a3] 3 (0, 0)) (by (with_reducible repeat (first | refine qa ?_ _ | refine qb ?_ | refine qc ?_ _)); exact BK282.out) hb); have n2_ := Aside0.mk (blk_below (g := gb283) (o := .cells #[.int .i64 a4] 3 (0, 0)) (by (with_reducible repeat (first | refine qa ?_ _ | refine qb ?_ | refine qc ?_ _)); exact BK283.out) hb); have n3_ := Aside0.mk (below_step (by repeat (first | (with_reducible first | exact HB.out | apply qg | apply qe | apply qf | refine qd ?_ GE281.out | refine qd ?_ GE282.out | refine qd ?_ GE283.out) | exact HB.out)) hb); clear BK281; clear BK282; clear BK283; clear HB; have BK281 := n0_; have BK282 := n1_; have BK283 := n2_; have HB := n3_; clear n0_ n1_ n2_ n3_; (try clear hb); (try clear hb2); (try clear hk); (try clear hi)) | (go_at_call 22; (with_reducible refine (mootlaw4_moved_c37.calls _ _ l0 a2 gb282 a3 gb283 a4 t341 t342 _ ?side1 ?side2 ?side3 ?side4 A130.out).mono ?_); (case side1 => repeat (first | exact (Kd.C_below HR0.out HB.out) | (with_reducible refine Kd.C_alloc ?_ _) | (with_reducible refine Kd.C_drewN ?_ _) | (with_reducible refine Kd.C_drew ?_))); (case side2 => exact HC0.out); (case side3 => (with_reducible repeat (first | refine qa ?_ _ | refine qb ?_ | refine qc ?_ _)); exact BK282.out); (case side4 => (with_reducible repeat (first | refine qa ?_ _ | refine qb ?_ | refine qc ?_ _)); exact BK283.out); rintro e w142 ⟨rfl, hb⟩; have n0_ := Aside0.mk (blk_below (g := gb281) (o := .cells #[.int .i64 a1_0, .int .i64 a1_1, .int .i64 a1_2, .int .i64 a1_3] 35 (0, 0)) (by (with_reducible repeat (first | refine qa ?_ _ | refine qb ?_ | refine qc ?_ _)); exact BK281.out) hb); have n1_ := Aside0.mk (blk_below (g := gb282) (o := .cells #[.int .i64 a3] 3 (0, 0)) (by (with_reducible repeat (first | refine qa ?_ _ | refine qb ?_ | refine qc ?_ _)); exact BK282.out) hb); have n2_ := Aside0.mk (blk_below (g := gb283) (o := .cells #[.int .i64 a4] 3 (0, 0)) (by (with_reducible repeat (first | refine qa ?_ _ | refine qb ?_ | refine qc ?_ _)); exact BK283.out) hb); have n3_ := Aside0.mk (below_step (by repeat (first | (with_reducible first | exact HB.out | apply qg | apply qe | apply qf | refine qd ?_ GE281.out | refine qd ?_ GE282.out | refine qd ?_ GE283.out) | exact HB.out)) hb); clear BK281; clear BK282; clear BK283; clear HB; have BK281 := n0_; have BK282 := n1_; have BK283 := n2_; have HB := n3_; clear n0_ n1_ n2_ n3_; (try clear hb); (try clear hb2); (try clear hk); (try clear hi)))
                                          go_ret
                                          exact ⟨by first | rfl | (simp [errW_none, errW_some] <;> rfl) | (simp [*, errW_none, errW_some] <;> rfl), by repeat (first | (with_reducible first | exact HB.out | apply qg | apply qe | apply qf | refine qd ?_ GE281.out | refine qd ?_ GE282.out | refine qd ?_ GE283.out) | exact HB.out)⟩
                                      · rw [if_neg c131] at H
                                        have c131b0 : (t291 == 0) = false := beq_eq_false_iff_ne.mpr c131
                                        have c131b1 : (t291 != 0) = true := bne_iff_ne.mpr c131
                                        obtain rfl := Option.some.inj H
                                        go_wp2_with (first | (go_at_call 22; (with_reducible refine (mootlaw4_moved_c36.calls _ _ l0 a2 gb283 a4 t339 t340 _ ?side1 ?side2 ?side3 A129.out).mono ?_); (case side1 => repeat (first | exact (Kd.C_below HR0.out HB.out) | (with_reducible refine Kd.C_alloc ?_ _) | (with_reducible refine Kd.C_drewN ?_ _) | (with_reducible refine Kd.C_drew ?_))); (case side2 => exact HC0.out); (case side3 => (with_reducible repeat (first | refine qa ?_ _ | refine qb ?_ | refine qc ?_ _)); exact BK283.out); rintro e w143 ⟨rfl, hb⟩; have n0_ := Aside0.mk (blk_below (g := gb281) (o := .cells #[.int .i64 a1_0, .int .i64 a1_1, .int .i64 a1_2, .int .i64 a1_3] 35 (0, 0)) (by (with_reducible repeat (first | refine qa ?_ _ | refine qb ?_ | refine qc ?_ _)); exact BK281.out) hb); have n1_ := Aside0.mk (blk_below (g := gb282) (o := .cells #[.int .i64 a3] 3 (0, 0)) (by (with_reducible repeat (first | refine qa ?_ _ | refine qb ?_ | refine qc ?_ _)); exact BK282.out) hb); have n2_ := Aside0.mk (blk_below (g := gb283) (o := .cells #[.int .i64 a4] 3 (0, 0)) (by (with_reducible repeat (first | refine qa ?_ _ | refine qb ?_ | refine qc ?_ _)); exact BK283.out) hb); have n3_ := Aside0.mk (below_step (by repeat (first | (with_reducible first | exact HB.out | apply qg | apply qe | apply qf | refine qd ?_ GE281.out | refine qd ?_ GE282.out | refine qd ?_ GE283.out) | exact HB.out)) hb); clear BK281; clear BK282; clear BK283; clear HB; have BK281 := n0_; have BK282 := n1_; have BK283 := n2_; have HB := n3_; clear n0_ n1_ n2_ n3_; (try clear hb); (try clear hb2); (try clear hk); (try clear hi)) | (go_at_call 22; (with_reducible refine (mootlaw4_moved_c37.calls _ _ l0 a2 gb282 a3 gb283 a4 t341 t342 _ ?side1 ?side2 ?side3 ?side4 A130.out).mono ?_); (case side1 => repeat (first | exact (Kd.C_below HR0.out HB.out) | (with_reducible refine Kd.C_alloc ?_ _) | (with_reducible refine Kd.C_drewN ?_ _) | (with_reducible refine Kd.C_drew ?_))); (case side2 => exact HC0.out); (case side3 => (with_reducible repeat (first | refine qa ?_ _ | refine qb ?_ | refine qc ?_ _)); exact BK282.out); (case side4 => (with_reducible repeat (first | refine qa ?_ _ | refine qb ?_ | refine qc ?_ _)); exact BK283.out); rintro e w144 ⟨rfl, hb⟩; have n0_ := Aside0.mk (blk_below (g := gb281) (o := .cells #[.int .i64 a1_0, .int .i64 a1_1, .int .i64 a1_2, .int .i64 a1_3] 35 (0, 0)) (by (with_reducible repeat (first | refine qa ?_ _ | refine qb ?_ | refine qc ?_ _)); exact BK281.out) hb); have n1_ := Aside0.mk (blk_below (g := gb282) (o := .cells #[.int .i64 a3] 3 (0, 0)) (by (with_reducible repeat (first | refine qa ?_ _ | refine qb ?_ | refine qc ?_ _)); exact BK282.out) hb); have n2_ := Aside0.mk (blk_below (g := gb283) (o := .cells #[.int .i64 a4] 3 (0, 0)) (by (with_reducible repeat (first | refine qa ?_ _ | refine qb ?_ | refine qc ?_ _)); exact BK283.out) hb); have n3_ := Aside0.mk (below_step (by repeat (first | (with_reducible first | exact HB.out | apply qg | apply qe | apply qf | refine qd ?_ GE281.out | refine qd ?_ GE282.out | refine qd ?_ GE283.out) | exact HB.out)) hb); clear BK281; clear BK282; clear BK283; clear HB; have BK281 := n0_; have BK282 := n1_; have BK283 := n2_; have HB := n3_; clear n0_ n1_ n2_ n3_; (try clear hb); (try clear hb2); (try clear hk); (try clear hi)))
                                        go_ret
                                        exact ⟨by first | rfl | (simp [errW_none, errW_some] <;> rfl) | (simp [*, errW_none, errW_some] <;> rfl), by repeat (first | (with_reducible first | exact HB.out | apply qg | apply qe | apply qf | refine qd ?_ GE281.out | refine qd ?_ GE282.out | refine qd ?_ GE283.out) | exact HB.out)⟩
            · rw [if_neg c72] at H
              have c72b0 : (t285 == 0) = false := beq_eq_false_iff_ne.mpr c72
              have c72b1 : (t285 != 0) = true := bne_iff_ne.mpr c72
              by_cases c145 : t291 = t285
              · rw [if_pos c145] at H
                have c145b0 : (t291 == t285) = true := beq_iff_eq.mpr c145
                have c145b1 : (t291 != t285) = false := bne_eq_false_iff_eq.mpr c145
                clear c145
                by_cases c146 : t294 = t285
                · rw [if_pos c146] at H
                  have c146b0 : (t294 == t285) = true := beq_iff_eq.mpr c146
                  have c146b1 : (t294 != t285) = false := bne_eq_false_iff_eq.mpr c146
                  clear c146
                  by_cases c147 : t300 = t285
                  · rw [if_pos c147] at H
                    have c147b0 : (t300 == t285) = true := beq_iff_eq.mpr c147
                    have c147b1 : (t300 != t285) = false := bne_eq_false_iff_eq.mpr c147
                    clear c147
                    obtain rfl := Option.some.inj H
                    obtain ⟨Ao148, co148, eo148⟩ := Kd.R_slice HO_21.out
                    subst eo148
                    obtain ⟨Ao149, co149, eo149⟩ := Kd.R_slice HO_23.out
                    subst eo149
                    go_wp2
                    go_ret
                    exact ⟨by first | rfl | (simp [errW_none, errW_some] <;> rfl) | (simp [*, errW_none, errW_some] <;> rfl), by repeat (first | (with_reducible first | exact HB.out | apply qg | apply qe | apply qf | refine qd ?_ GE281.out | refine qd ?_ GE282.out | refine qd ?_ GE283.out) | exact HB.out)⟩
                  · rw [if_neg c147] at H
                    have c147b0 : (t300 == t285) = false := beq_eq_false_iff_ne.mpr c147
                    have c147b1 : (t300 != t285) = true := bne_iff_ne.mpr c147
                    obtain rfl := Option.some.inj H
                    go_wp2
                    go_ret
                    exact ⟨by first | rfl | (simp [errW_none, errW_some] <;> rfl) | (simp [*, errW_none, errW_some] <;> rfl), by repeat (first | (with_reducible first | exact HB.out | apply qg | apply qe | apply qf | refine qd ?_ GE281.out | refine qd ?_ GE282.out | refine qd ?_ GE283.out) | exact HB.out)⟩
                · rw [if_neg c146] at H
                  have c146b0 : (t294 == t285) = false := beq_eq_false_iff_ne.mpr c146
                  have c146b1 : (t294 != t285) = true := bne_iff_ne.mpr c146
                  obtain rfl := Option.some.inj H
                  go_wp2
                  go_ret
                  exact ⟨by first | rfl | (simp [errW_none, errW_some] <;> rfl) | (simp [*, errW_none, errW_some] <;> rfl), by repeat (first | (with_reducible first | exact HB.out | apply qg | apply qe | apply qf | refine qd ?_ GE281.out | refine qd ?_ GE282.out | refine qd ?_ GE283.out) | exact HB.out)⟩
              · rw [if_neg c145] at H
                have c145b0 : (t291 == t285) = false := beq_eq_false_iff_ne.mpr c145
                have c145b1 : (t291 != t285) = true := bne_iff_ne.mpr c145
                obtain rfl := Option.some.inj H
                go_wp2
                go_ret
                exact ⟨by first | rfl | (simp [errW_none, errW_some] <;> rfl) | (simp [*, errW_none, errW_some] <;> rfl), by repeat (first | (with_reducible first | exact HB.out | apply qg | apply qe | apply qf | refine qd ?_ GE281.out | refine qd ?_ GE282.out | refine qd ?_ GE283.out) | exact HB.out)⟩
    · rw [if_neg c16] at H
      exact absurd H (by simp)
  · replace c8 := Bool.eq_false_iff.mpr c8
    subst c8
    have H1 : (some false) = some r := by rw [if_neg (show ¬ (false = true) by decide)] at H; exact H
    clear H
    have H := H1
    clear H1
    obtain rfl := Option.some.inj H
    go_enter Try.func8, Try.ntmps8
    go_wp2_with (first | ((with_reducible refine gate_dst (N := 7) rfl ?_); (try (refine gate_guard (by rfl) ?_; dsimp only)); refine box_event ?hg (N := 7) ?hd (cs := #[.int .i64 a1_0, .int .i64 a1_1, .int .i64 a1_2, .int .i64 a1_3]) (t := 35) ?hr ?_; (case hd => rfl); (case hg => rfl); (case hr => first | (go_simp; done) | (go_simp; rfl)); intro gb281 hg w150 hbox hb; have n0_ := Aside0.mk (below_step (by repeat (first | (with_reducible first | exact HB.out | apply qg | apply qe | apply qf) | exact HB.out)) hb); have n1_ := Aside0.mk (hbox); have n2_ := Aside0.mk ((by rw [hg]; exact (below_size (by repeat (first | (with_reducible first | exact HB.out | apply qg | apply qe | apply qf) | exact HB.out))) : w.heap.size ≤ gb281)); have n3_ := Aside0.mk ((by rw [hg]; exact (below_size (by repeat (first | (with_reducible first | exact HB.out | apply qg | apply qe | apply qf) | exact HB.out))) : w.heap.size ≤ gb281)); clear HB; have HB := n0_; have BK281 := n1_; have GW281 := n2_; have GE281 := n3_; clear n0_ n1_ n2_ n3_; clear hb hbox hg) | ((with_reducible refine gate_dst (N := 9) rfl ?_); (try (refine gate_guard (by rfl) ?_; dsimp only)); refine box_event ?hg (N := 9) ?hd (cs := #[.int .i64 a3]) (t := 3) ?hr ?_; (case hd => rfl); (case hg => rfl); (case hr => first | (go_simp; done) | (go_simp; rfl)); intro gb282 hg w151 hbox hb; have n0_ := Aside0.mk (blk_below (g := gb281) (o := .cells #[.int .i64 a1_0, .int .i64 a1_1, .int .i64 a1_2, .int .i64 a1_3] 35 (0, 0)) (by (with_reducible repeat (first | refine qa ?_ _ | refine qb ?_ | refine qc ?_ _)); exact BK281.out) hb); have n1_ := Aside0.mk (below_step (by repeat (first | (with_reducible first | exact HB.out | apply qg | apply qe | apply qf | refine qd ?_ GE281.out) | exact HB.out)) hb); have n2_ := Aside0.mk (hbox); have n3_ := Aside0.mk ((by rw [hg]; exact (below_size (by repeat (first | (with_reducible first | exact HB.out | apply qg | apply qe | apply qf | refine qd ?_ GE281.out) | exact HB.out))) : w.heap.size ≤ gb282)); have n4_ := Aside0.mk ((by rw [hg]; exact (below_size (by repeat (first | (with_reducible first | exact HB.out | apply qg | apply qe | apply qf | refine qd ?_ GE281.out) | exact HB.out))) : w.heap.size ≤ gb282)); have n5_ := Aside0.mk ((by rw [hg]; exact Nat.ne_of_lt (blk_lt (g := gb281) (o := .cells #[.int .i64 a1_0, .int .i64 a1_1, .int .i64 a1_2, .int .i64 a1_3] 35 (0, 0)) (by (with_reducible repeat (first | refine qa ?_ _ | refine qb ?_ | refine qc ?_ _)); exact BK281.out)) : gb281 ≠ gb282)); have n6_ := Aside0.mk ((by rw [hg]; exact Nat.ne_of_gt (blk_lt (g := gb281) (o := .cells #[.int .i64 a1_0, .int .i64 a1_1, .int .i64 a1_2, .int .i64 a1_3] 35 (0, 0)) (by (with_reducible repeat (first | refine qa ?_ _ | refine qb ?_ | refine qc ?_ _)); exact BK281.out)) : gb282 ≠ gb281)); clear BK281; clear HB; have BK281 := n0_; have HB := n1_; have BK282 := n2_; have GW282 := n3_; have GE282 := n4_; have NB281_282 := n5_; have NB282_281 := n6_; clear n0_ n1_ n2_ n3_ n4_ n5_ n6_; clear hb hbox hg) | ((with_reducible refine gate_dst (N := 10) rfl ?_); (try (refine gate_guard (by rfl) ?_; dsimp only)); refine box_event ?hg (N := 10) ?hd (cs := #[.int .i64 a4]) (t := 3) ?hr ?_; (case hd => rfl); (case hg => rfl); (case hr => first | (go_simp; done) | (go_simp; rfl)); intro gb283 hg w152 hbox hb; have n0_ := Aside0.mk (blk_below (g := gb281) (o := .cells #[.int .i64 a1_0, .int .i64 a1_1, .int .i64 a1_2, .int .i64 a1_3] 35 (0, 0)) (by (with_reducible repeat (first | refine qa ?_ _ | refine qb ?_ | refine qc ?_ _)); exact BK281.out) hb); have n1_ := Aside0.mk (blk_below (g := gb282) (o := .cells #[.int .i64 a3] 3 (0, 0)) (by (with_reducible repeat (first | refine qa ?_ _ | refine qb ?_ | refine qc ?_ _)); exact BK282.out) hb); have n2_ := Aside0.mk (below_step (by repeat (first | (with_reducible first | exact HB.out | apply qg | apply qe | apply qf | refine qd ?_ GE281.out | refine qd ?_ GE282.out) | exact HB.out)) hb); have n3_ := Aside0.mk (hbox); have n4_ := Aside0.mk ((by rw [hg]; exact (below_size (by repeat (first | (with_reducible first | exact HB.out | apply qg | apply qe | apply qf | refine qd ?_ GE281.out | refine qd ?_ GE282.out) | exact HB.out))) : w.heap.size ≤ gb283)); have n5_ := Aside0.mk ((by rw [hg]; exact (below_size (by repeat (first | (with_reducible first | exact HB.out | apply qg | apply qe | apply qf | refine qd ?_ GE281.out | refine qd ?_ GE282.out) | exact HB.out))) : w.heap.size ≤ gb283)); have n6_ := Aside0.mk ((by rw [hg]; exact Nat.ne_of_lt (blk_lt (g := gb281) (o := .cells #[.int .i64 a1_0, .int .i64 a1_1, .int .i64 a1_2, .int .i64 a1_3] 35 (0, 0)) (by (with_reducible repeat (first | refine qa ?_ _ | refine qb ?_ | refine qc ?_ _)); exact BK281.out)) : gb281 ≠ gb283)); have n7_ := Aside0.mk ((by rw [hg]; exact Nat.ne_of_gt (blk_lt (g := gb281) (o := .cells #[.int .i64 a1_0, .int .i64 a1_1, .int .i64 a1_2, .int .i64 a1_3] 35 (0, 0)) (by (with_reducible repeat (first | refine qa ?_ _ | refine qb ?_ | refine qc ?_ _)); exact BK281.out)) : gb283 ≠ gb281)); have n8_ := Aside0.mk ((by rw [hg]; exact Nat.ne_of_lt (blk_lt (g := gb282) (o := .cells #[.int .i64 a3] 3 (0, 0)) (by (with_reducible repeat (first | refine qa ?_ _ | refine qb ?_ | refine qc ?_ _)); exact BK282.out)) : gb282 ≠ gb283)); have n9_ := Aside0.mk ((by rw [hg]; exact Nat.ne_of_gt (blk_lt (g := gb282) (o := .cells #[.int .i64 a3] 3 (0, 0)) (by (with_reducible repeat (first | refine qa ?_ _ | refine qb ?_ | refine qc ?_ _)); exact BK282.out)) : gb283 ≠ gb282)); clear BK281; clear BK282; clear HB; have BK281 := n0_; have BK282 := n1_; have HB := n2_; have BK283 := n3_; have GW283 := n4_; have GE283 := n5_; have NB281_283 := n6_; have NB283_281 := n7_; have NB282_283 := n8_; have NB283_282 := n9_; clear n0_ n1_ n2_ n3_ n4_ n5_ n6_ n7_ n8_ n9_; clear hb hbox hg) | ((with_reducible refine gate_callee (f := 19) rfl ?_); refine goesL_ (some 35) rfl rfl Try.func19 (by kernel_rfl) rfl #[] rfl (by (try simp only [List.map_toArray, List.map_cons, List.map_nil]); first | done | rfl | (simp only [List.length_drop, List.length_take]; rfl)) ?_; (with_reducible refine (mootlaw4_posts.calls k  false _ A7.out).mono ?_); rintro e w153 ⟨rfl, hb⟩; refine ⟨_, rfl, ?_⟩; have n0_ := Aside0.mk (blk_below (g := gb281) (o := .cells #[.int .i64 a1_0, .int .i64 a1_1, .int .i64 a1_2, .int .i64 a1_3] 35 (0, 0)) (by (with_reducible repeat (first | refine qa ?_ _ | refine qb ?_ | refine qc ?_ _)); exact BK281.out) hb); have n1_ := Aside0.mk (blk_below (g := gb282) (o := .cells #[.int .i64 a3] 3 (0, 0)) (by (with_reducible repeat (first | refine qa ?_ _ | refine qb ?_ | refine qc ?_ _)); exact BK282.out) hb); have n2_ := Aside0.mk (blk_below (g := gb283) (o := .cells #[.int .i64 a4] 3 (0, 0)) (by (with_reducible repeat (first | refine qa ?_ _ | refine qb ?_ | refine qc ?_ _)); exact BK283.out) hb); have n3_ := Aside0.mk (below_step (by repeat (first | (with_reducible first | exact HB.out | apply qg | apply qe | apply qf | refine qd ?_ GE281.out | refine qd ?_ GE282.out | refine qd ?_ GE283.out) | exact HB.out)) hb); clear BK281; clear BK282; clear BK283; clear HB; have BK281 := n0_; have BK282 := n1_; have BK283 := n2_; have HB := n3_; clear n0_ n1_ n2_ n3_; (try clear hb); (try clear hb2); (try clear hk); (try clear hi)))
    go_ret
    exact ⟨by first | rfl | (simp [errW_none, errW_some] <;> rfl) | (simp [*, errW_none, errW_some] <;> rfl), by repeat (first | (with_reducible first | exact HB.out | apply qg | apply qe | apply qf | refine qd ?_ GE281.out | refine qd ?_ GE282.out | refine qd ?_ GE283.out) | exact HB.out)⟩

/-- THE ONE PURE STATEMENT of mootlaw4_LedgerTells: yours. -/
def mootlaw4_LedgerTells.Pure : Prop := ∀ (l0 : List (S35)) (a1_0 : Int) (a1_1 : Int) (a1_2 : Int) (a1_3 : Int) (a2 : Int) (a3 : Int) (a4 : Int) (a5 : Int), l0.length ≤ maxLen → l0.length * 32 ≤ 140737488351232 → (∀ x ∈ l0, wf_S35 x) → ((Lit.int .i64 a1_0).wf = true) → ((Lit.int .i64 a1_1).wf = true) → ((Lit.int .i64 a1_2).wf = true) → ((Lit.int .i64 a1_3).wf = true) → (Lit.int .i64 a2).wf = true → (Lit.int .i64 a3).wf = true → (Lit.int .i64 a4).wf = true → (Lit.int .i64 a5).wf = true → ∃ k, mootlaw4_LedgerTells.f k l0 a1_0 a1_1 a1_2 a1_3 a2 a3 a4 a5 = some true
theorem mootlaw4_LedgerTells.walk (P : mootlaw4_LedgerTells.Pure) (a0 : Option Addr) (len0 cap0 : Nat) (l0 : List (S35)) (a1_0 : Int) (a1_1 : Int) (a1_2 : Int) (a1_3 : Int) (a2 : Int) (a3 : Int) (a4 : Int) (a5 : Int) (w : World) (w0 : len0 = l0.length ∧ l0.length ≤ cap0 ∧ Kd.C k35 w a0 l0.length l0) (x0 : l0.length ≤ maxLen ∧ ∀ x ∈ l0, wf_S35 x) (y0 : len0 * 32 ≤ 140737488351232) (w1_0 : (Lit.int .i64 a1_0).wf = true) (w1_1 : (Lit.int .i64 a1_1).wf = true) (w1_2 : (Lit.int .i64 a1_2).wf = true) (w1_3 : (Lit.int .i64 a1_3).wf = true) (w2 : (Lit.int .i64 a2).wf = true) (w3 : (Lit.int .i64 a3).wf = true) (w4 : (Lit.int .i64 a4).wf = true) (w5 : (Lit.int .i64 a5).wf = true) :
    Calls Try.prog 8 #[.slice a0 len0 cap0, .agg #[.int .i64 a1_0, .int .i64 a1_1, .int .i64 a1_2, .int .i64 a1_3], .int .i64 a2, .int .i64 a3, .int .i64 a4, .int .i64 a5] w fun e w' => e = .returned (.bool true) ∧ Below w.heap.size w w' := by
  obtain ⟨rfl, hc0, hr0⟩ := w0
  obtain ⟨k, h⟩ := P l0 a1_0 a1_1 a1_2 a1_3 a2 a3 a4 a5 x0.1 y0 x0.2 w1_0 w1_1 w1_2 w1_3 w2 w3 w4 w5
  refine (mootlaw4_LedgerTells.calls k _ _ l0 a1_0 a1_1 a1_2 a1_3 a2 a3 a4 a5 true w hr0 hc0 h).mono ?_
  rintro e w' ⟨rfl, hd⟩
  exact ⟨rfl, hd⟩

end Go.Proofs.Ytenhnlclnjnboaa.PTel
